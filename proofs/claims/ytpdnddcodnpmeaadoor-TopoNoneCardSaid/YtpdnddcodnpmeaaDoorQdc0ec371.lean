/-
  Package snow and its reference: parameters, places, which instances may be.
-/
import Derived.Lib.SlBytesConst
import Derived.Maps.RangeRun
import Derived.KernelRfl
import Derived.Test.YtpdnddcodnpmeaaDoorQf27925b2
import Derived.Test.YtpdnddcodnpmeaaDoorQ3a432b15
set_option linter.unusedVariables false
set_option maxRecDepth 100000
namespace Go.Fx
theorem someNe {α : Type} {o : Option α} (h : o.isSome = true) : o ≠ none := by intro h2; rw [h2] at h; cases h
theorem U_int64 : P.underlying T_int64 = some (.int .i64) := by kernel_rfl
theorem U_int : P.underlying T_int = some (.int .i64) := by kernel_rfl
theorem U_bool : P.underlying T_bool = some .bool := by kernel_rfl
theorem U_uint8 : P.underlying T_uint8 = some (.int .u8) := by kernel_rfl
theorem U_api_ID : P.underlying T_api_ID = some (.array 32 T_uint8) := by kernel_rfl
theorem U_sl_uint8 : P.underlying T_sl_uint8 = some (.slice T_uint8) := by kernel_rfl
theorem S_sl_uint8 : SlT P T_sl_uint8 T_uint8 1 1 := ⟨by kernel_rfl, by kernel_rfl, by kernel_rfl, someNe (by kernel_rfl), by kernel_rfl, by decide⟩
theorem U_api_Block : P.underlying T_api_Block = some (.struct (fsOf P T_api_Block)) := by kernel_rfl
theorem U_sl_api_Vote : P.underlying T_sl_api_Vote = some (.slice T_api_Vote) := by kernel_rfl
theorem S_sl_api_Vote : SlT P T_sl_api_Vote T_api_Vote 33 40 := ⟨by kernel_rfl, by kernel_rfl, by kernel_rfl, someNe (by kernel_rfl), by kernel_rfl, by decide⟩
theorem U_api_Params : P.underlying T_api_Params = some (.struct (fsOf P T_api_Params)) := by kernel_rfl
theorem U_map_api_ID_api_Snow : P.underlying T_map_api_ID_api_Snow = some (.map T_api_ID T_api_Snow) := by kernel_rfl
theorem U_topo_Topo : P.underlying T_topo_Topo = some (.struct (fsOf P T_topo_Topo)) := by kernel_rfl
theorem S_sl_p_topo_Topo : SlT P T_sl_p_topo_Topo T_p_topo_Topo 1 8 := ⟨by kernel_rfl, by kernel_rfl, by kernel_rfl, someNe (by kernel_rfl), by kernel_rfl, by decide⟩
theorem U_sl_api_ID : P.underlying T_sl_api_ID = some (.slice T_api_ID) := by kernel_rfl
theorem S_sl_api_ID : SlT P T_sl_api_ID T_api_ID 32 32 := ⟨by kernel_rfl, by kernel_rfl, by kernel_rfl, someNe (by kernel_rfl), by kernel_rfl, by decide⟩
theorem U_sl_api_Choice : P.underlying T_sl_api_Choice = some (.slice T_api_Choice) := by kernel_rfl
theorem S_sl_api_Choice : SlT P T_sl_api_Choice T_api_Choice 33 40 := ⟨by kernel_rfl, by kernel_rfl, by kernel_rfl, someNe (by kernel_rfl), by kernel_rfl, by decide⟩
theorem U_api_Snow : P.underlying T_api_Snow = some (.struct (fsOf P T_api_Snow)) := by kernel_rfl
theorem U_api_Vote : P.underlying T_api_Vote = some (.struct (fsOf P T_api_Vote)) := by kernel_rfl
theorem U_map_api_ID_int : P.underlying T_map_api_ID_int = some (.map T_api_ID T_int) := by kernel_rfl
theorem U_map_api_ID_bool : P.underlying T_map_api_ID_bool = some (.map T_api_ID T_bool) := by kernel_rfl
theorem U_api_Choice : P.underlying T_api_Choice = some (.struct (fsOf P T_api_Choice)) := by kernel_rfl
theorem U_map_api_ID_api_Block : P.underlying T_map_api_ID_api_Block = some (.map T_api_ID T_api_Block) := by kernel_rfl
theorem U_tree_Tree : P.underlying T_tree_Tree = some (.struct (fsOf P T_tree_Tree)) := by kernel_rfl
theorem U_pack_Packer : P.underlying T_pack_Packer = some (.struct (fsOf P T_pack_Packer)) := by kernel_rfl
theorem U_uint32 : P.underlying T_uint32 = some (.int .u32) := by kernel_rfl
theorem U_a64_uint32 : P.underlying T_a64_uint32 = some (.array 64 T_uint32) := by kernel_rfl
abbrev Q_api_Block := (Rdr.pair (rVec 32) (Rdr.pair (rInt .i64) qv))
theorem L_api_Block {h : Heap} {g : Nat} {t : TypeId} {fr : Nat × Nat} {a} (hg : h[g]? = some (.cells (Rdr.cells Q_api_Block a).toArray t fr)) (K : Value → Prop) : ldN 34 (.pointer (some ⟨g, 0, none⟩)) h K = K (.agg (Rdr.cells Q_api_Block a).toArray) := Fld.ldN (r := Q_api_Block) (s := Q_api_Block) Fld.self hg K
theorem St_api_Block {w0 w : World} {As : List Asn} {g : Nat} {t : TypeId} {a} {b} {K : World → Prop} (hs : Sep w0 w (blk g (Rdr.cells Q_api_Block a).toArray t :: As)) (h1 : ∀ u ∈ Rdr.cells Q_api_Block b, u.oneCell' = true) (h : ∀ w', Sep w0 w' (blk g (Rdr.cells Q_api_Block b).toArray t :: As) → K w') : stN 34 (.pointer (some ⟨g, 0, none⟩)) (.agg (Rdr.cells Q_api_Block b).toArray) w K := Fld.stN (r := Q_api_Block) (s := Q_api_Block) Fld.self hs h1 h
theorem L_api_Block__Parent {h : Heap} {g : Nat} {t : TypeId} {fr : Nat × Nat} {a} (hg : h[g]? = some (.cells (Rdr.cells Q_api_Block a).toArray t fr)) (K : Value → Prop) : ldN 32 (.pointer (some ⟨g, 0, none⟩)) h K = K (.agg (Rdr.cells (rVec 32) a.1).toArray) := Fld.ldN (r := Q_api_Block) (s := (rVec 32)) (Fld.fst Fld.self) hg K
theorem L_api_Block__Height {h : Heap} {g : Nat} {t : TypeId} {fr : Nat × Nat} {a} (hg : h[g]? = some (.cells (Rdr.cells Q_api_Block a).toArray t fr)) (K : Value → Prop) : ld1 (.pointer (some ⟨g, 32, none⟩)) h K = K (.int .i64 a.2.1) := Fld.ldI (r := Q_api_Block) (Fld.snd (Fld.fst Fld.self)) hg K
theorem L_api_Block__Data {h : Heap} {g : Nat} {t : TypeId} {fr : Nat × Nat} {a} (hg : h[g]? = some (.cells (Rdr.cells Q_api_Block a).toArray t fr)) (K : Value → Prop) : ld1 (.pointer (some ⟨g, 33, none⟩)) h K = K (a.2.2) := Fld.ld1 (r := Q_api_Block) (Fld.snd (Fld.snd Fld.self)) hg K
theorem St_api_Block__Data {w0 w : World} {As : List Asn} {g : Nat} {t : TypeId} {a} {b} {K : World → Prop} (hs : Sep w0 w (blk g (Rdr.cells Q_api_Block a).toArray t :: As)) (h1 : b.oneCell' = true) (h : ∀ w', Sep w0 w' (blk g (Rdr.cells Q_api_Block (a.1, a.2.1, b)).toArray t :: As) → K w') : st1 (.pointer (some ⟨g, 33, none⟩)) (b) w K := Fld.stV (r := Q_api_Block) (s := qv) (Fld.snd (Fld.snd Fld.self)) rfl hs h1 h
theorem one_api_Block {a} (h0 : (a.2.2).oneCell' = true) : ∀ u ∈ Rdr.cells Q_api_Block a, u.oneCell' = true := (onePair oneVec (onePair oneI (oneV h0)))
theorem A_api_Block (w : World) : (Instr.alloc T_api_Block true (.tuple #[])).run P w = .ok (.pointer (some ⟨w.heap.size, 0, none⟩)) (w.alloc (.cells (Rdr.cells Q_api_Block ((vz 32), (0 : Int), ((Value.slice none 0 0)))).toArray T_api_Block)) := by kernel_rfl
theorem pl_api_Block : ((fsOf P T_api_Block).toList.mapM fun f : Field => (P.info? f.type).map fun i => (f.offset, i.size)) = some (#[(0, 32), (32, 1), (33, 1)] : Array (Nat × Nat)).toList := by kernel_rfl
theorem z_api_Block : ((P.info? T_api_Block).bind fun it => it.zero.map fun z => z.cells) = some (Rdr.cells Q_api_Block ((vz 32), (0 : Int), ((Value.slice none 0 0)))).toArray := by kernel_rfl
abbrev Q_api_Params := (Rdr.pair (rInt .i64) (Rdr.pair (rInt .i64) (Rdr.pair (rInt .i64) (rInt .i64))))
theorem L_api_Params {h : Heap} {g : Nat} {t : TypeId} {fr : Nat × Nat} {a} (hg : h[g]? = some (.cells (Rdr.cells Q_api_Params a).toArray t fr)) (K : Value → Prop) : ldN 4 (.pointer (some ⟨g, 0, none⟩)) h K = K (.agg (Rdr.cells Q_api_Params a).toArray) := Fld.ldN (r := Q_api_Params) (s := Q_api_Params) Fld.self hg K
theorem St_api_Params {w0 w : World} {As : List Asn} {g : Nat} {t : TypeId} {a} {b} {K : World → Prop} (hs : Sep w0 w (blk g (Rdr.cells Q_api_Params a).toArray t :: As)) (h1 : ∀ u ∈ Rdr.cells Q_api_Params b, u.oneCell' = true) (h : ∀ w', Sep w0 w' (blk g (Rdr.cells Q_api_Params b).toArray t :: As) → K w') : stN 4 (.pointer (some ⟨g, 0, none⟩)) (.agg (Rdr.cells Q_api_Params b).toArray) w K := Fld.stN (r := Q_api_Params) (s := Q_api_Params) Fld.self hs h1 h
theorem L_api_Params__K {h : Heap} {g : Nat} {t : TypeId} {fr : Nat × Nat} {a} (hg : h[g]? = some (.cells (Rdr.cells Q_api_Params a).toArray t fr)) (K : Value → Prop) : ld1 (.pointer (some ⟨g, 0, none⟩)) h K = K (.int .i64 a.1) := Fld.ldI (r := Q_api_Params) (Fld.fst Fld.self) hg K
theorem L_api_Params__AlphaPref {h : Heap} {g : Nat} {t : TypeId} {fr : Nat × Nat} {a} (hg : h[g]? = some (.cells (Rdr.cells Q_api_Params a).toArray t fr)) (K : Value → Prop) : ld1 (.pointer (some ⟨g, 1, none⟩)) h K = K (.int .i64 a.2.1) := Fld.ldI (r := Q_api_Params) (Fld.snd (Fld.fst Fld.self)) hg K
theorem L_api_Params__AlphaConf {h : Heap} {g : Nat} {t : TypeId} {fr : Nat × Nat} {a} (hg : h[g]? = some (.cells (Rdr.cells Q_api_Params a).toArray t fr)) (K : Value → Prop) : ld1 (.pointer (some ⟨g, 2, none⟩)) h K = K (.int .i64 a.2.2.1) := Fld.ldI (r := Q_api_Params) (Fld.snd (Fld.snd (Fld.fst Fld.self))) hg K
theorem L_api_Params__Beta {h : Heap} {g : Nat} {t : TypeId} {fr : Nat × Nat} {a} (hg : h[g]? = some (.cells (Rdr.cells Q_api_Params a).toArray t fr)) (K : Value → Prop) : ld1 (.pointer (some ⟨g, 3, none⟩)) h K = K (.int .i64 a.2.2.2) := Fld.ldI (r := Q_api_Params) (Fld.snd (Fld.snd (Fld.snd Fld.self))) hg K
theorem one_api_Params {a}  : ∀ u ∈ Rdr.cells Q_api_Params a, u.oneCell' = true := (onePair oneI (onePair oneI (onePair oneI oneI)))
theorem A_api_Params (w : World) : (Instr.alloc T_api_Params true (.tuple #[])).run P w = .ok (.pointer (some ⟨w.heap.size, 0, none⟩)) (w.alloc (.cells (Rdr.cells Q_api_Params ((0 : Int), (0 : Int), (0 : Int), (0 : Int))).toArray T_api_Params)) := by kernel_rfl
theorem pl_api_Params : ((fsOf P T_api_Params).toList.mapM fun f : Field => (P.info? f.type).map fun i => (f.offset, i.size)) = some (#[(0, 1), (1, 1), (2, 1), (3, 1)] : Array (Nat × Nat)).toList := by kernel_rfl
theorem z_api_Params : ((P.info? T_api_Params).bind fun it => it.zero.map fun z => z.cells) = some (Rdr.cells Q_api_Params ((0 : Int), (0 : Int), (0 : Int), (0 : Int))).toArray := by kernel_rfl
abbrev Q_topo_Topo := (Rdr.pair qv (Rdr.pair Q_api_Params qv))
theorem L_topo_Topo {h : Heap} {g : Nat} {t : TypeId} {fr : Nat × Nat} {a} (hg : h[g]? = some (.cells (Rdr.cells Q_topo_Topo a).toArray t fr)) (K : Value → Prop) : ldN 6 (.pointer (some ⟨g, 0, none⟩)) h K = K (.agg (Rdr.cells Q_topo_Topo a).toArray) := Fld.ldN (r := Q_topo_Topo) (s := Q_topo_Topo) Fld.self hg K
theorem L_topo_Topo__inner {h : Heap} {g : Nat} {t : TypeId} {fr : Nat × Nat} {a} (hg : h[g]? = some (.cells (Rdr.cells Q_topo_Topo a).toArray t fr)) (K : Value → Prop) : ld1 (.pointer (some ⟨g, 0, none⟩)) h K = K (a.1) := Fld.ld1 (r := Q_topo_Topo) (Fld.fst Fld.self) hg K
theorem L_topo_Topo__p {h : Heap} {g : Nat} {t : TypeId} {fr : Nat × Nat} {a} (hg : h[g]? = some (.cells (Rdr.cells Q_topo_Topo a).toArray t fr)) (K : Value → Prop) : ldN 4 (.pointer (some ⟨g, 1, none⟩)) h K = K (.agg (Rdr.cells Q_api_Params a.2.1).toArray) := Fld.ldN (r := Q_topo_Topo) (s := Q_api_Params) (Fld.snd (Fld.fst Fld.self)) hg K
theorem L_topo_Topo__p_K {h : Heap} {g : Nat} {t : TypeId} {fr : Nat × Nat} {a} (hg : h[g]? = some (.cells (Rdr.cells Q_topo_Topo a).toArray t fr)) (K : Value → Prop) : ld1 (.pointer (some ⟨g, 1, none⟩)) h K = K (.int .i64 a.2.1.1) := Fld.ldI (r := Q_topo_Topo) (Fld.snd (Fld.fst (Fld.fst Fld.self))) hg K
theorem L_topo_Topo__p_AlphaPref {h : Heap} {g : Nat} {t : TypeId} {fr : Nat × Nat} {a} (hg : h[g]? = some (.cells (Rdr.cells Q_topo_Topo a).toArray t fr)) (K : Value → Prop) : ld1 (.pointer (some ⟨g, 2, none⟩)) h K = K (.int .i64 a.2.1.2.1) := Fld.ldI (r := Q_topo_Topo) (Fld.snd (Fld.fst (Fld.snd (Fld.fst Fld.self)))) hg K
theorem L_topo_Topo__p_AlphaConf {h : Heap} {g : Nat} {t : TypeId} {fr : Nat × Nat} {a} (hg : h[g]? = some (.cells (Rdr.cells Q_topo_Topo a).toArray t fr)) (K : Value → Prop) : ld1 (.pointer (some ⟨g, 3, none⟩)) h K = K (.int .i64 a.2.1.2.2.1) := Fld.ldI (r := Q_topo_Topo) (Fld.snd (Fld.fst (Fld.snd (Fld.snd (Fld.fst Fld.self))))) hg K
theorem L_topo_Topo__p_Beta {h : Heap} {g : Nat} {t : TypeId} {fr : Nat × Nat} {a} (hg : h[g]? = some (.cells (Rdr.cells Q_topo_Topo a).toArray t fr)) (K : Value → Prop) : ld1 (.pointer (some ⟨g, 4, none⟩)) h K = K (.int .i64 a.2.1.2.2.2) := Fld.ldI (r := Q_topo_Topo) (Fld.snd (Fld.fst (Fld.snd (Fld.snd (Fld.snd Fld.self))))) hg K
theorem L_topo_Topo__snows {h : Heap} {g : Nat} {t : TypeId} {fr : Nat × Nat} {a} (hg : h[g]? = some (.cells (Rdr.cells Q_topo_Topo a).toArray t fr)) (K : Value → Prop) : ld1 (.pointer (some ⟨g, 5, none⟩)) h K = K (a.2.2) := Fld.ld1 (r := Q_topo_Topo) (Fld.snd (Fld.snd Fld.self)) hg K
theorem St_topo_Topo__snows {w0 w : World} {As : List Asn} {g : Nat} {t : TypeId} {a} {b} {K : World → Prop} (hs : Sep w0 w (blk g (Rdr.cells Q_topo_Topo a).toArray t :: As)) (h1 : b.oneCell' = true) (h : ∀ w', Sep w0 w' (blk g (Rdr.cells Q_topo_Topo (a.1, a.2.1, b)).toArray t :: As) → K w') : st1 (.pointer (some ⟨g, 5, none⟩)) (b) w K := Fld.stV (r := Q_topo_Topo) (s := qv) (Fld.snd (Fld.snd Fld.self)) rfl hs h1 h
theorem pl_topo_Topo : ((fsOf P T_topo_Topo).toList.mapM fun f : Field => (P.info? f.type).map fun i => (f.offset, i.size)) = some (#[(0, 1), (1, 4), (5, 1)] : Array (Nat × Nat)).toList := by kernel_rfl
theorem z_topo_Topo : ((P.info? T_topo_Topo).bind fun it => it.zero.map fun z => z.cells) = some (Rdr.cells Q_topo_Topo (((Value.pointer none)), ((0 : Int), (0 : Int), (0 : Int), (0 : Int)), ((Value.map none)))).toArray := by kernel_rfl
abbrev Q_api_Snow := (Rdr.pair qv (Rdr.pair (rVec 32) (Rdr.pair (rVec 32) (Rdr.pair (rInt .i64) rBool))))
theorem L_api_Snow {h : Heap} {g : Nat} {t : TypeId} {fr : Nat × Nat} {a} (hg : h[g]? = some (.cells (Rdr.cells Q_api_Snow a).toArray t fr)) (K : Value → Prop) : ldN 67 (.pointer (some ⟨g, 0, none⟩)) h K = K (.agg (Rdr.cells Q_api_Snow a).toArray) := Fld.ldN (r := Q_api_Snow) (s := Q_api_Snow) Fld.self hg K
theorem St_api_Snow {w0 w : World} {As : List Asn} {g : Nat} {t : TypeId} {a} {b} {K : World → Prop} (hs : Sep w0 w (blk g (Rdr.cells Q_api_Snow a).toArray t :: As)) (h1 : ∀ u ∈ Rdr.cells Q_api_Snow b, u.oneCell' = true) (h : ∀ w', Sep w0 w' (blk g (Rdr.cells Q_api_Snow b).toArray t :: As) → K w') : stN 67 (.pointer (some ⟨g, 0, none⟩)) (.agg (Rdr.cells Q_api_Snow b).toArray) w K := Fld.stN (r := Q_api_Snow) (s := Q_api_Snow) Fld.self hs h1 h
theorem L_api_Snow__List {h : Heap} {g : Nat} {t : TypeId} {fr : Nat × Nat} {a} (hg : h[g]? = some (.cells (Rdr.cells Q_api_Snow a).toArray t fr)) (K : Value → Prop) : ld1 (.pointer (some ⟨g, 0, none⟩)) h K = K (a.1) := Fld.ld1 (r := Q_api_Snow) (Fld.fst Fld.self) hg K
theorem St_api_Snow__List {w0 w : World} {As : List Asn} {g : Nat} {t : TypeId} {a} {b} {K : World → Prop} (hs : Sep w0 w (blk g (Rdr.cells Q_api_Snow a).toArray t :: As)) (h1 : b.oneCell' = true) (h : ∀ w', Sep w0 w' (blk g (Rdr.cells Q_api_Snow (b, a.2.1, a.2.2.1, a.2.2.2.1, a.2.2.2.2)).toArray t :: As) → K w') : st1 (.pointer (some ⟨g, 0, none⟩)) (b) w K := Fld.stV (r := Q_api_Snow) (s := qv) (Fld.fst Fld.self) rfl hs h1 h
theorem L_api_Snow__Pref {h : Heap} {g : Nat} {t : TypeId} {fr : Nat × Nat} {a} (hg : h[g]? = some (.cells (Rdr.cells Q_api_Snow a).toArray t fr)) (K : Value → Prop) : ldN 32 (.pointer (some ⟨g, 1, none⟩)) h K = K (.agg (Rdr.cells (rVec 32) a.2.1).toArray) := Fld.ldN (r := Q_api_Snow) (s := (rVec 32)) (Fld.snd (Fld.fst Fld.self)) hg K
theorem St_api_Snow__Pref {w0 w : World} {As : List Asn} {g : Nat} {t : TypeId} {a} {b} {K : World → Prop} (hs : Sep w0 w (blk g (Rdr.cells Q_api_Snow a).toArray t :: As)) (h1 : ∀ u ∈ Rdr.cells (rVec 32) b, u.oneCell' = true) (h : ∀ w', Sep w0 w' (blk g (Rdr.cells Q_api_Snow (a.1, b, a.2.2.1, a.2.2.2.1, a.2.2.2.2)).toArray t :: As) → K w') : stN 32 (.pointer (some ⟨g, 1, none⟩)) (.agg (Rdr.cells (rVec 32) b).toArray) w K := Fld.stN (r := Q_api_Snow) (s := (rVec 32)) (Fld.snd (Fld.fst Fld.self)) hs h1 h
theorem L_api_Snow__Flake {h : Heap} {g : Nat} {t : TypeId} {fr : Nat × Nat} {a} (hg : h[g]? = some (.cells (Rdr.cells Q_api_Snow a).toArray t fr)) (K : Value → Prop) : ldN 32 (.pointer (some ⟨g, 33, none⟩)) h K = K (.agg (Rdr.cells (rVec 32) a.2.2.1).toArray) := Fld.ldN (r := Q_api_Snow) (s := (rVec 32)) (Fld.snd (Fld.snd (Fld.fst Fld.self))) hg K
theorem St_api_Snow__Flake {w0 w : World} {As : List Asn} {g : Nat} {t : TypeId} {a} {b} {K : World → Prop} (hs : Sep w0 w (blk g (Rdr.cells Q_api_Snow a).toArray t :: As)) (h1 : ∀ u ∈ Rdr.cells (rVec 32) b, u.oneCell' = true) (h : ∀ w', Sep w0 w' (blk g (Rdr.cells Q_api_Snow (a.1, a.2.1, b, a.2.2.2.1, a.2.2.2.2)).toArray t :: As) → K w') : stN 32 (.pointer (some ⟨g, 33, none⟩)) (.agg (Rdr.cells (rVec 32) b).toArray) w K := Fld.stN (r := Q_api_Snow) (s := (rVec 32)) (Fld.snd (Fld.snd (Fld.fst Fld.self))) hs h1 h
theorem L_api_Snow__Conf {h : Heap} {g : Nat} {t : TypeId} {fr : Nat × Nat} {a} (hg : h[g]? = some (.cells (Rdr.cells Q_api_Snow a).toArray t fr)) (K : Value → Prop) : ld1 (.pointer (some ⟨g, 65, none⟩)) h K = K (.int .i64 a.2.2.2.1) := Fld.ldI (r := Q_api_Snow) (Fld.snd (Fld.snd (Fld.snd (Fld.fst Fld.self)))) hg K
theorem St_api_Snow__Conf {w0 w : World} {As : List Asn} {g : Nat} {t : TypeId} {a} {b} {K : World → Prop} (hs : Sep w0 w (blk g (Rdr.cells Q_api_Snow a).toArray t :: As)) (h : ∀ w', Sep w0 w' (blk g (Rdr.cells Q_api_Snow (a.1, a.2.1, a.2.2.1, b, a.2.2.2.2)).toArray t :: As) → K w') : st1 (.pointer (some ⟨g, 65, none⟩)) (.int .i64 b) w K := Fld.stV (r := Q_api_Snow) (s := (rInt .i64)) (Fld.snd (Fld.snd (Fld.snd (Fld.fst Fld.self)))) rfl hs rfl h
theorem L_api_Snow__Done {h : Heap} {g : Nat} {t : TypeId} {fr : Nat × Nat} {a} (hg : h[g]? = some (.cells (Rdr.cells Q_api_Snow a).toArray t fr)) (K : Value → Prop) : ld1 (.pointer (some ⟨g, 66, none⟩)) h K = K (.bool a.2.2.2.2) := Fld.ldB (r := Q_api_Snow) (Fld.snd (Fld.snd (Fld.snd (Fld.snd Fld.self)))) hg K
theorem St_api_Snow__Done {w0 w : World} {As : List Asn} {g : Nat} {t : TypeId} {a} {b} {K : World → Prop} (hs : Sep w0 w (blk g (Rdr.cells Q_api_Snow a).toArray t :: As)) (h : ∀ w', Sep w0 w' (blk g (Rdr.cells Q_api_Snow (a.1, a.2.1, a.2.2.1, a.2.2.2.1, b)).toArray t :: As) → K w') : st1 (.pointer (some ⟨g, 66, none⟩)) (.bool b) w K := Fld.stV (r := Q_api_Snow) (s := rBool) (Fld.snd (Fld.snd (Fld.snd (Fld.snd Fld.self)))) rfl hs rfl h
theorem one_api_Snow {a} (h0 : (a.1).oneCell' = true) : ∀ u ∈ Rdr.cells Q_api_Snow a, u.oneCell' = true := (onePair (oneV h0) (onePair oneVec (onePair oneVec (onePair oneI oneB))))
theorem A_api_Snow (w : World) : (Instr.alloc T_api_Snow true (.tuple #[])).run P w = .ok (.pointer (some ⟨w.heap.size, 0, none⟩)) (w.alloc (.cells (Rdr.cells Q_api_Snow (((Value.slice none 0 0)), (vz 32), (vz 32), (0 : Int), false)).toArray T_api_Snow)) := by kernel_rfl
theorem pl_api_Snow : ((fsOf P T_api_Snow).toList.mapM fun f : Field => (P.info? f.type).map fun i => (f.offset, i.size)) = some (#[(0, 1), (1, 32), (33, 32), (65, 1), (66, 1)] : Array (Nat × Nat)).toList := by kernel_rfl
theorem z_api_Snow : ((P.info? T_api_Snow).bind fun it => it.zero.map fun z => z.cells) = some (Rdr.cells Q_api_Snow (((Value.slice none 0 0)), (vz 32), (vz 32), (0 : Int), false)).toArray := by kernel_rfl
abbrev Q_api_Vote := (Rdr.pair (rVec 32) (rInt .i64))
theorem L_api_Vote {h : Heap} {g : Nat} {t : TypeId} {fr : Nat × Nat} {a} (hg : h[g]? = some (.cells (Rdr.cells Q_api_Vote a).toArray t fr)) (K : Value → Prop) : ldN 33 (.pointer (some ⟨g, 0, none⟩)) h K = K (.agg (Rdr.cells Q_api_Vote a).toArray) := Fld.ldN (r := Q_api_Vote) (s := Q_api_Vote) Fld.self hg K
theorem St_api_Vote {w0 w : World} {As : List Asn} {g : Nat} {t : TypeId} {a} {b} {K : World → Prop} (hs : Sep w0 w (blk g (Rdr.cells Q_api_Vote a).toArray t :: As)) (h1 : ∀ u ∈ Rdr.cells Q_api_Vote b, u.oneCell' = true) (h : ∀ w', Sep w0 w' (blk g (Rdr.cells Q_api_Vote b).toArray t :: As) → K w') : stN 33 (.pointer (some ⟨g, 0, none⟩)) (.agg (Rdr.cells Q_api_Vote b).toArray) w K := Fld.stN (r := Q_api_Vote) (s := Q_api_Vote) Fld.self hs h1 h
theorem L_api_Vote__ID {h : Heap} {g : Nat} {t : TypeId} {fr : Nat × Nat} {a} (hg : h[g]? = some (.cells (Rdr.cells Q_api_Vote a).toArray t fr)) (K : Value → Prop) : ldN 32 (.pointer (some ⟨g, 0, none⟩)) h K = K (.agg (Rdr.cells (rVec 32) a.1).toArray) := Fld.ldN (r := Q_api_Vote) (s := (rVec 32)) (Fld.fst Fld.self) hg K
theorem LA_api_Vote__ID {h : Heap} {g o : Nat} {a} (hg : At h g o (Rdr.cells Q_api_Vote a)) (K : Value → Prop) : ldN 32 (.pointer (some ⟨g, o, none⟩)) h K = K (.agg (Rdr.cells (rVec 32) a.1).toArray) := Fld.ldNA (r := Q_api_Vote) (s := (rVec 32)) (Fld.fst Fld.self) hg K
theorem L_api_Vote__N {h : Heap} {g : Nat} {t : TypeId} {fr : Nat × Nat} {a} (hg : h[g]? = some (.cells (Rdr.cells Q_api_Vote a).toArray t fr)) (K : Value → Prop) : ld1 (.pointer (some ⟨g, 32, none⟩)) h K = K (.int .i64 a.2) := Fld.ldI (r := Q_api_Vote) (Fld.snd Fld.self) hg K
theorem A_api_Vote (w : World) : (Instr.alloc T_api_Vote true (.tuple #[])).run P w = .ok (.pointer (some ⟨w.heap.size, 0, none⟩)) (w.alloc (.cells (Rdr.cells Q_api_Vote ((vz 32), (0 : Int))).toArray T_api_Vote)) := by kernel_rfl
theorem pl_api_Vote : ((fsOf P T_api_Vote).toList.mapM fun f : Field => (P.info? f.type).map fun i => (f.offset, i.size)) = some (#[(0, 32), (32, 1)] : Array (Nat × Nat)).toList := by kernel_rfl
theorem z_api_Vote : ((P.info? T_api_Vote).bind fun it => it.zero.map fun z => z.cells) = some (Rdr.cells Q_api_Vote ((vz 32), (0 : Int))).toArray := by kernel_rfl
abbrev Q_api_Choice := (Rdr.pair (rVec 32) (rInt .i64))
theorem L_api_Choice {h : Heap} {g : Nat} {t : TypeId} {fr : Nat × Nat} {a} (hg : h[g]? = some (.cells (Rdr.cells Q_api_Choice a).toArray t fr)) (K : Value → Prop) : ldN 33 (.pointer (some ⟨g, 0, none⟩)) h K = K (.agg (Rdr.cells Q_api_Choice a).toArray) := Fld.ldN (r := Q_api_Choice) (s := Q_api_Choice) Fld.self hg K
theorem St_api_Choice {w0 w : World} {As : List Asn} {g : Nat} {t : TypeId} {a} {b} {K : World → Prop} (hs : Sep w0 w (blk g (Rdr.cells Q_api_Choice a).toArray t :: As)) (h1 : ∀ u ∈ Rdr.cells Q_api_Choice b, u.oneCell' = true) (h : ∀ w', Sep w0 w' (blk g (Rdr.cells Q_api_Choice b).toArray t :: As) → K w') : stN 33 (.pointer (some ⟨g, 0, none⟩)) (.agg (Rdr.cells Q_api_Choice b).toArray) w K := Fld.stN (r := Q_api_Choice) (s := Q_api_Choice) Fld.self hs h1 h
theorem L_api_Choice__ID {h : Heap} {g : Nat} {t : TypeId} {fr : Nat × Nat} {a} (hg : h[g]? = some (.cells (Rdr.cells Q_api_Choice a).toArray t fr)) (K : Value → Prop) : ldN 32 (.pointer (some ⟨g, 0, none⟩)) h K = K (.agg (Rdr.cells (rVec 32) a.1).toArray) := Fld.ldN (r := Q_api_Choice) (s := (rVec 32)) (Fld.fst Fld.self) hg K
theorem L_api_Choice__Strength {h : Heap} {g : Nat} {t : TypeId} {fr : Nat × Nat} {a} (hg : h[g]? = some (.cells (Rdr.cells Q_api_Choice a).toArray t fr)) (K : Value → Prop) : ld1 (.pointer (some ⟨g, 32, none⟩)) h K = K (.int .i64 a.2) := Fld.ldI (r := Q_api_Choice) (Fld.snd Fld.self) hg K
theorem LA_api_Choice__Strength {h : Heap} {g o : Nat} {a} (hg : At h g o (Rdr.cells Q_api_Choice a)) (K : Value → Prop) : ld1 (.pointer (some ⟨g, o + 32, none⟩)) h K = K (.int .i64 a.2) := Fld.ldI' (r := Q_api_Choice) (Fld.snd Fld.self) hg K
theorem one_api_Choice {a}  : ∀ u ∈ Rdr.cells Q_api_Choice a, u.oneCell' = true := (onePair oneVec oneI)
theorem A_api_Choice (w : World) : (Instr.alloc T_api_Choice true (.tuple #[])).run P w = .ok (.pointer (some ⟨w.heap.size, 0, none⟩)) (w.alloc (.cells (Rdr.cells Q_api_Choice ((vz 32), (0 : Int))).toArray T_api_Choice)) := by kernel_rfl
theorem pl_api_Choice : ((fsOf P T_api_Choice).toList.mapM fun f : Field => (P.info? f.type).map fun i => (f.offset, i.size)) = some (#[(0, 32), (32, 1)] : Array (Nat × Nat)).toList := by kernel_rfl
theorem z_api_Choice : ((P.info? T_api_Choice).bind fun it => it.zero.map fun z => z.cells) = some (Rdr.cells Q_api_Choice ((vz 32), (0 : Int))).toArray := by kernel_rfl
abbrev Q_tree_Tree := (Rdr.pair rBool (Rdr.pair (rVec 32) (Rdr.pair (rInt .i64) (Rdr.pair (rInt .i64) (Rdr.pair qv qv)))))
theorem L_tree_Tree {h : Heap} {g : Nat} {t : TypeId} {fr : Nat × Nat} {a} (hg : h[g]? = some (.cells (Rdr.cells Q_tree_Tree a).toArray t fr)) (K : Value → Prop) : ldN 37 (.pointer (some ⟨g, 0, none⟩)) h K = K (.agg (Rdr.cells Q_tree_Tree a).toArray) := Fld.ldN (r := Q_tree_Tree) (s := Q_tree_Tree) Fld.self hg K
theorem L_tree_Tree__made {h : Heap} {g : Nat} {t : TypeId} {fr : Nat × Nat} {a} (hg : h[g]? = some (.cells (Rdr.cells Q_tree_Tree a).toArray t fr)) (K : Value → Prop) : ld1 (.pointer (some ⟨g, 0, none⟩)) h K = K (.bool a.1) := Fld.ldB (r := Q_tree_Tree) (Fld.fst Fld.self) hg K
theorem L_tree_Tree__root {h : Heap} {g : Nat} {t : TypeId} {fr : Nat × Nat} {a} (hg : h[g]? = some (.cells (Rdr.cells Q_tree_Tree a).toArray t fr)) (K : Value → Prop) : ldN 32 (.pointer (some ⟨g, 1, none⟩)) h K = K (.agg (Rdr.cells (rVec 32) a.2.1).toArray) := Fld.ldN (r := Q_tree_Tree) (s := (rVec 32)) (Fld.snd (Fld.fst Fld.self)) hg K
theorem St_tree_Tree__root {w0 w : World} {As : List Asn} {g : Nat} {t : TypeId} {a} {b} {K : World → Prop} (hs : Sep w0 w (blk g (Rdr.cells Q_tree_Tree a).toArray t :: As)) (h1 : ∀ u ∈ Rdr.cells (rVec 32) b, u.oneCell' = true) (h : ∀ w', Sep w0 w' (blk g (Rdr.cells Q_tree_Tree (a.1, b, a.2.2.1, a.2.2.2.1, a.2.2.2.2.1, a.2.2.2.2.2)).toArray t :: As) → K w') : stN 32 (.pointer (some ⟨g, 1, none⟩)) (.agg (Rdr.cells (rVec 32) b).toArray) w K := Fld.stN (r := Q_tree_Tree) (s := (rVec 32)) (Fld.snd (Fld.fst Fld.self)) hs h1 h
theorem L_tree_Tree__height {h : Heap} {g : Nat} {t : TypeId} {fr : Nat × Nat} {a} (hg : h[g]? = some (.cells (Rdr.cells Q_tree_Tree a).toArray t fr)) (K : Value → Prop) : ld1 (.pointer (some ⟨g, 33, none⟩)) h K = K (.int .i64 a.2.2.1) := Fld.ldI (r := Q_tree_Tree) (Fld.snd (Fld.snd (Fld.fst Fld.self))) hg K
theorem St_tree_Tree__height {w0 w : World} {As : List Asn} {g : Nat} {t : TypeId} {a} {b} {K : World → Prop} (hs : Sep w0 w (blk g (Rdr.cells Q_tree_Tree a).toArray t :: As)) (h : ∀ w', Sep w0 w' (blk g (Rdr.cells Q_tree_Tree (a.1, a.2.1, b, a.2.2.2.1, a.2.2.2.2.1, a.2.2.2.2.2)).toArray t :: As) → K w') : st1 (.pointer (some ⟨g, 33, none⟩)) (.int .i64 b) w K := Fld.stV (r := Q_tree_Tree) (s := (rInt .i64)) (Fld.snd (Fld.snd (Fld.fst Fld.self))) rfl hs rfl h
theorem L_tree_Tree__most {h : Heap} {g : Nat} {t : TypeId} {fr : Nat × Nat} {a} (hg : h[g]? = some (.cells (Rdr.cells Q_tree_Tree a).toArray t fr)) (K : Value → Prop) : ld1 (.pointer (some ⟨g, 34, none⟩)) h K = K (.int .i64 a.2.2.2.1) := Fld.ldI (r := Q_tree_Tree) (Fld.snd (Fld.snd (Fld.snd (Fld.fst Fld.self)))) hg K
theorem L_tree_Tree__blocks {h : Heap} {g : Nat} {t : TypeId} {fr : Nat × Nat} {a} (hg : h[g]? = some (.cells (Rdr.cells Q_tree_Tree a).toArray t fr)) (K : Value → Prop) : ld1 (.pointer (some ⟨g, 35, none⟩)) h K = K (a.2.2.2.2.1) := Fld.ld1 (r := Q_tree_Tree) (Fld.snd (Fld.snd (Fld.snd (Fld.snd (Fld.fst Fld.self))))) hg K
theorem L_tree_Tree__order {h : Heap} {g : Nat} {t : TypeId} {fr : Nat × Nat} {a} (hg : h[g]? = some (.cells (Rdr.cells Q_tree_Tree a).toArray t fr)) (K : Value → Prop) : ld1 (.pointer (some ⟨g, 36, none⟩)) h K = K (a.2.2.2.2.2) := Fld.ld1 (r := Q_tree_Tree) (Fld.snd (Fld.snd (Fld.snd (Fld.snd (Fld.snd Fld.self))))) hg K
theorem St_tree_Tree__order {w0 w : World} {As : List Asn} {g : Nat} {t : TypeId} {a} {b} {K : World → Prop} (hs : Sep w0 w (blk g (Rdr.cells Q_tree_Tree a).toArray t :: As)) (h1 : b.oneCell' = true) (h : ∀ w', Sep w0 w' (blk g (Rdr.cells Q_tree_Tree (a.1, a.2.1, a.2.2.1, a.2.2.2.1, a.2.2.2.2.1, b)).toArray t :: As) → K w') : st1 (.pointer (some ⟨g, 36, none⟩)) (b) w K := Fld.stV (r := Q_tree_Tree) (s := qv) (Fld.snd (Fld.snd (Fld.snd (Fld.snd (Fld.snd Fld.self))))) rfl hs h1 h
theorem pl_tree_Tree : ((fsOf P T_tree_Tree).toList.mapM fun f : Field => (P.info? f.type).map fun i => (f.offset, i.size)) = some (#[(0, 1), (1, 32), (33, 1), (34, 1), (35, 1), (36, 1)] : Array (Nat × Nat)).toList := by kernel_rfl
theorem z_tree_Tree : ((P.info? T_tree_Tree).bind fun it => it.zero.map fun z => z.cells) = some (Rdr.cells Q_tree_Tree (false, (vz 32), (0 : Int), (0 : Int), ((Value.map none)), ((Value.slice none 0 0)))).toArray := by kernel_rfl
abbrev Q_pack_kept := (Rdr.pair rBool (Rdr.pair qv (rInt .i64)))
abbrev Q_pack_Packer := (Rdr.pair Q_pack_kept (rInt .i64))
theorem L_pack_Packer {h : Heap} {g : Nat} {t : TypeId} {fr : Nat × Nat} {a} (hg : h[g]? = some (.cells (Rdr.cells Q_pack_Packer a).toArray t fr)) (K : Value → Prop) : ldN 4 (.pointer (some ⟨g, 0, none⟩)) h K = K (.agg (Rdr.cells Q_pack_Packer a).toArray) := Fld.ldN (r := Q_pack_Packer) (s := Q_pack_Packer) Fld.self hg K
theorem L_pack_Packer__kept {h : Heap} {g : Nat} {t : TypeId} {fr : Nat × Nat} {a} (hg : h[g]? = some (.cells (Rdr.cells Q_pack_Packer a).toArray t fr)) (K : Value → Prop) : ldN 3 (.pointer (some ⟨g, 0, none⟩)) h K = K (.agg (Rdr.cells Q_pack_kept a.1).toArray) := Fld.ldN (r := Q_pack_Packer) (s := Q_pack_kept) (Fld.fst Fld.self) hg K
theorem L_pack_Packer__kept_made {h : Heap} {g : Nat} {t : TypeId} {fr : Nat × Nat} {a} (hg : h[g]? = some (.cells (Rdr.cells Q_pack_Packer a).toArray t fr)) (K : Value → Prop) : ld1 (.pointer (some ⟨g, 0, none⟩)) h K = K (.bool a.1.1) := Fld.ldB (r := Q_pack_Packer) (Fld.fst (Fld.fst Fld.self)) hg K
theorem St_pack_Packer__kept_made {w0 w : World} {As : List Asn} {g : Nat} {t : TypeId} {a} {b} {K : World → Prop} (hs : Sep w0 w (blk g (Rdr.cells Q_pack_Packer a).toArray t :: As)) (h : ∀ w', Sep w0 w' (blk g (Rdr.cells Q_pack_Packer ((b, a.1.2.1, a.1.2.2), a.2)).toArray t :: As) → K w') : st1 (.pointer (some ⟨g, 0, none⟩)) (.bool b) w K := Fld.stV (r := Q_pack_Packer) (s := rBool) (Fld.fst (Fld.fst Fld.self)) rfl hs rfl h
theorem L_pack_Packer__kept_b {h : Heap} {g : Nat} {t : TypeId} {fr : Nat × Nat} {a} (hg : h[g]? = some (.cells (Rdr.cells Q_pack_Packer a).toArray t fr)) (K : Value → Prop) : ld1 (.pointer (some ⟨g, 1, none⟩)) h K = K (a.1.2.1) := Fld.ld1 (r := Q_pack_Packer) (Fld.fst (Fld.snd (Fld.fst Fld.self))) hg K
theorem St_pack_Packer__kept_b {w0 w : World} {As : List Asn} {g : Nat} {t : TypeId} {a} {b} {K : World → Prop} (hs : Sep w0 w (blk g (Rdr.cells Q_pack_Packer a).toArray t :: As)) (h1 : b.oneCell' = true) (h : ∀ w', Sep w0 w' (blk g (Rdr.cells Q_pack_Packer ((a.1.1, b, a.1.2.2), a.2)).toArray t :: As) → K w') : st1 (.pointer (some ⟨g, 1, none⟩)) (b) w K := Fld.stV (r := Q_pack_Packer) (s := qv) (Fld.fst (Fld.snd (Fld.fst Fld.self))) rfl hs h1 h
theorem L_pack_Packer__kept_err {h : Heap} {g : Nat} {t : TypeId} {fr : Nat × Nat} {a} (hg : h[g]? = some (.cells (Rdr.cells Q_pack_Packer a).toArray t fr)) (K : Value → Prop) : ld1 (.pointer (some ⟨g, 2, none⟩)) h K = K (.int .i64 a.1.2.2) := Fld.ldI (r := Q_pack_Packer) (Fld.fst (Fld.snd (Fld.snd Fld.self))) hg K
theorem L_pack_Packer__limit {h : Heap} {g : Nat} {t : TypeId} {fr : Nat × Nat} {a} (hg : h[g]? = some (.cells (Rdr.cells Q_pack_Packer a).toArray t fr)) (K : Value → Prop) : ld1 (.pointer (some ⟨g, 3, none⟩)) h K = K (.int .i64 a.2) := Fld.ldI (r := Q_pack_Packer) (Fld.snd Fld.self) hg K
theorem pl_pack_Packer : ((fsOf P T_pack_Packer).toList.mapM fun f : Field => (P.info? f.type).map fun i => (f.offset, i.size)) = some (#[(0, 3), (3, 1)] : Array (Nat × Nat)).toList := by kernel_rfl
theorem z_pack_Packer : ((P.info? T_pack_Packer).bind fun it => it.zero.map fun z => z.cells) = some (Rdr.cells Q_pack_Packer ((false, ((Value.slice none 0 0)), (0 : Int)), (0 : Int))).toArray := by kernel_rfl
theorem A_api_ID (w : World) : (Instr.alloc T_api_ID true (.tuple #[])).run P w = .ok (.pointer (some ⟨w.heap.size, 0, none⟩)) (w.alloc (.cells (Rdr.cells (rVec 32) (vz 32)).toArray T_api_ID)) := by kernel_rfl
theorem L_api_ID {h : Heap} {g : Nat} {t : TypeId} {fr : Nat × Nat} {a} (hg : h[g]? = some (.cells (Rdr.cells (rVec 32) a).toArray t fr)) (K : Value → Prop) : ldN 32 (.pointer (some ⟨g, 0, none⟩)) h K = K (.agg (Rdr.cells (rVec 32) a).toArray) := Fld.ldN (r := rVec 32) (s := rVec 32) Fld.self hg K
theorem St_api_ID {w0 w : World} {As : List Asn} {g : Nat} {t : TypeId} {a} {b} {K : World → Prop} (hs : Sep w0 w (blk g (Rdr.cells (rVec 32) a).toArray t :: As)) (h : ∀ w', Sep w0 w' (blk g (Rdr.cells (rVec 32) b).toArray t :: As) → K w') : stN 32 (.pointer (some ⟨g, 0, none⟩)) (.agg (Rdr.cells (rVec 32) b).toArray) w K := Fld.stN (r := rVec 32) (s := rVec 32) Fld.self hs oneVec h
theorem EQ_api_ID : EqT P T_api_ID (rVec 32) true 2 := eqT_vec U_api_ID U_uint8 (by kernel_rfl) (by kernel_rfl)
theorem eq_api_ID {x y : Operand} {w : World} {a b : Vec 32} (K : Value → Prop) : rdP P (eqS .eql T_api_ID x y (.agg (Rdr.cells (rVec 32) a).toArray) (.agg (Rdr.cells (rVec 32) b).toArray)) w K = K (.bool (decide (a = b))) := eqS_agg EQ_api_ID (by decide) (by kernel_rfl) K
theorem ne_api_ID {x y : Operand} {w : World} {a b : Vec 32} (K : Value → Prop) : rdP P (eqS .neq T_api_ID x y (.agg (Rdr.cells (rVec 32) a).toArray) (.agg (Rdr.cells (rVec 32) b).toArray)) w K = K (.bool (!decide (a = b))) := neS_agg EQ_api_ID (by decide) (by kernel_rfl) K
theorem EQ_api_Choice : EqT P T_api_Choice Q_api_Choice true 3 := eqT_struct (l := [(T_api_ID, 0), (T_int, 32)]) (by kernel_rfl) (by kernel_rfl) (by kernel_rfl) (by kernel_rfl) (eqF_cons EQ_api_ID (eqF_last (eqT_up (eqT_int U_int (by kernel_rfl)) (by decide))))
theorem ne_api_Choice {x y : Operand} {w : World} {a b} (K : Value → Prop) : rdP P (eqS .neq T_api_Choice x y (.agg (Rdr.cells Q_api_Choice a).toArray) (.agg (Rdr.cells Q_api_Choice b).toArray)) w K = K (.bool (!decide (a = b))) := neS_agg EQ_api_Choice (by decide) (by kernel_rfl) K
theorem B_api_Block  {w : World}  (K : Value → Prop) : rdP P (Instr.build T_api_Block #[]) w K = K (.agg (Rdr.cells Q_api_Block ((vz 32), (0 : Int), ((Value.slice none 0 0)))).toArray) := by
  refine rd_build ?_ K
  refine (built_struct z_api_Block U_api_Block pl_api_Block).trans ?_
  rfl
theorem B_api_Block_0_1_2 {b0} {b1 : Int} {b2 : Value} {w : World} (h2 : b2.oneCell' = true) (K : Value → Prop) : rdP P (Instr.build T_api_Block #[(0, .agg (Rdr.cells (rVec 32) b0).toArray), (1, .int .i64 b1), (2, b2)]) w K = K (.agg (Rdr.cells Q_api_Block (b0, b1, b2)).toArray) := by
  refine rd_build ?_ K
  refine (built_struct z_api_Block U_api_Block pl_api_Block).trans ?_
  refine Eq.trans (fill_step (r := Q_api_Block) (s := (rVec 32)) (Fld.fst Fld.self) (a := ((vz 32), (0 : Int), ((Value.slice none 0 0)))) rfl rfl) ?_
  refine Eq.trans (fill_step (r := Q_api_Block) (s := (rInt .i64)) (Fld.snd (Fld.fst Fld.self)) (a := (b0, (0 : Int), ((Value.slice none 0 0)))) rfl rfl) ?_
  refine Eq.trans (fill_step (r := Q_api_Block) (s := qv) (Fld.snd (Fld.snd Fld.self)) (a := (b0, b1, ((Value.slice none 0 0)))) rfl (cells_one h2)) ?_
  rfl
theorem B_api_Block_2 {b2 : Value} {w : World} (h2 : b2.oneCell' = true) (K : Value → Prop) : rdP P (Instr.build T_api_Block #[(2, b2)]) w K = K (.agg (Rdr.cells Q_api_Block ((vz 32), (0 : Int), b2)).toArray) := by
  refine rd_build ?_ K
  refine (built_struct z_api_Block U_api_Block pl_api_Block).trans ?_
  refine Eq.trans (fill_step (r := Q_api_Block) (s := qv) (Fld.snd (Fld.snd Fld.self)) (a := ((vz 32), (0 : Int), ((Value.slice none 0 0)))) rfl (cells_one h2)) ?_
  rfl
theorem B_api_Params_0_1_2_3 {b0 : Int} {b1 : Int} {b2 : Int} {b3 : Int} {w : World}  (K : Value → Prop) : rdP P (Instr.build T_api_Params #[(0, .int .i64 b0), (1, .int .i64 b1), (2, .int .i64 b2), (3, .int .i64 b3)]) w K = K (.agg (Rdr.cells Q_api_Params (b0, b1, b2, b3)).toArray) := by
  refine rd_build ?_ K
  refine (built_struct z_api_Params U_api_Params pl_api_Params).trans ?_
  refine Eq.trans (fill_step (r := Q_api_Params) (s := (rInt .i64)) (Fld.fst Fld.self) (a := ((0 : Int), (0 : Int), (0 : Int), (0 : Int))) rfl rfl) ?_
  refine Eq.trans (fill_step (r := Q_api_Params) (s := (rInt .i64)) (Fld.snd (Fld.fst Fld.self)) (a := (b0, (0 : Int), (0 : Int), (0 : Int))) rfl rfl) ?_
  refine Eq.trans (fill_step (r := Q_api_Params) (s := (rInt .i64)) (Fld.snd (Fld.snd (Fld.fst Fld.self))) (a := (b0, b1, (0 : Int), (0 : Int))) rfl rfl) ?_
  refine Eq.trans (fill_step (r := Q_api_Params) (s := (rInt .i64)) (Fld.snd (Fld.snd (Fld.snd Fld.self))) (a := (b0, b1, b2, (0 : Int))) rfl rfl) ?_
  rfl
theorem B_topo_Topo  {w : World}  (K : Value → Prop) : rdP P (Instr.build T_topo_Topo #[]) w K = K (.agg (Rdr.cells Q_topo_Topo (((Value.pointer none)), ((0 : Int), (0 : Int), (0 : Int), (0 : Int)), ((Value.map none)))).toArray) := by
  refine rd_build ?_ K
  refine (built_struct z_topo_Topo U_topo_Topo pl_topo_Topo).trans ?_
  rfl
theorem B_topo_Topo_0_1_2 {b0 : Value} {b1} {b2 : Value} {w : World} (h0 : b0.oneCell' = true) (h2 : b2.oneCell' = true) (K : Value → Prop) : rdP P (Instr.build T_topo_Topo #[(0, b0), (1, .agg (Rdr.cells Q_api_Params b1).toArray), (2, b2)]) w K = K (.agg (Rdr.cells Q_topo_Topo (b0, b1, b2)).toArray) := by
  refine rd_build ?_ K
  refine (built_struct z_topo_Topo U_topo_Topo pl_topo_Topo).trans ?_
  refine Eq.trans (fill_step (r := Q_topo_Topo) (s := qv) (Fld.fst Fld.self) (a := (((Value.pointer none)), ((0 : Int), (0 : Int), (0 : Int), (0 : Int)), ((Value.map none)))) rfl (cells_one h0)) ?_
  refine Eq.trans (fill_step (r := Q_topo_Topo) (s := Q_api_Params) (Fld.snd (Fld.fst Fld.self)) (a := (b0, ((0 : Int), (0 : Int), (0 : Int), (0 : Int)), ((Value.map none)))) rfl rfl) ?_
  refine Eq.trans (fill_step (r := Q_topo_Topo) (s := qv) (Fld.snd (Fld.snd Fld.self)) (a := (b0, b1, ((Value.map none)))) rfl (cells_one h2)) ?_
  rfl
theorem B_api_Snow  {w : World}  (K : Value → Prop) : rdP P (Instr.build T_api_Snow #[]) w K = K (.agg (Rdr.cells Q_api_Snow (((Value.slice none 0 0)), (vz 32), (vz 32), (0 : Int), false)).toArray) := by
  refine rd_build ?_ K
  refine (built_struct z_api_Snow U_api_Snow pl_api_Snow).trans ?_
  rfl
theorem B_api_Snow_0_1_2 {b0 : Value} {b1} {b2} {w : World} (h0 : b0.oneCell' = true) (K : Value → Prop) : rdP P (Instr.build T_api_Snow #[(0, b0), (1, .agg (Rdr.cells (rVec 32) b1).toArray), (2, .agg (Rdr.cells (rVec 32) b2).toArray)]) w K = K (.agg (Rdr.cells Q_api_Snow (b0, b1, b2, (0 : Int), false)).toArray) := by
  refine rd_build ?_ K
  refine (built_struct z_api_Snow U_api_Snow pl_api_Snow).trans ?_
  refine Eq.trans (fill_step (r := Q_api_Snow) (s := qv) (Fld.fst Fld.self) (a := (((Value.slice none 0 0)), (vz 32), (vz 32), (0 : Int), false)) rfl (cells_one h0)) ?_
  refine Eq.trans (fill_step (r := Q_api_Snow) (s := (rVec 32)) (Fld.snd (Fld.fst Fld.self)) (a := (b0, (vz 32), (vz 32), (0 : Int), false)) rfl rfl) ?_
  refine Eq.trans (fill_step (r := Q_api_Snow) (s := (rVec 32)) (Fld.snd (Fld.snd (Fld.fst Fld.self))) (a := (b0, b1, (vz 32), (0 : Int), false)) rfl rfl) ?_
  rfl
theorem B_api_Vote_0_1 {b0} {b1 : Int} {w : World}  (K : Value → Prop) : rdP P (Instr.build T_api_Vote #[(0, .agg (Rdr.cells (rVec 32) b0).toArray), (1, .int .i64 b1)]) w K = K (.agg (Rdr.cells Q_api_Vote (b0, b1)).toArray) := by
  refine rd_build ?_ K
  refine (built_struct z_api_Vote U_api_Vote pl_api_Vote).trans ?_
  refine Eq.trans (fill_step (r := Q_api_Vote) (s := (rVec 32)) (Fld.fst Fld.self) (a := ((vz 32), (0 : Int))) rfl rfl) ?_
  refine Eq.trans (fill_step (r := Q_api_Vote) (s := (rInt .i64)) (Fld.snd Fld.self) (a := (b0, (0 : Int))) rfl rfl) ?_
  rfl
theorem B_api_Choice_0 {b0} {w : World}  (K : Value → Prop) : rdP P (Instr.build T_api_Choice #[(0, .agg (Rdr.cells (rVec 32) b0).toArray)]) w K = K (.agg (Rdr.cells Q_api_Choice (b0, (0 : Int))).toArray) := by
  refine rd_build ?_ K
  refine (built_struct z_api_Choice U_api_Choice pl_api_Choice).trans ?_
  refine Eq.trans (fill_step (r := Q_api_Choice) (s := (rVec 32)) (Fld.fst Fld.self) (a := ((vz 32), (0 : Int))) rfl rfl) ?_
  rfl
theorem B_tree_Tree_0_1_2_3_4 {b0 : Bool} {b1} {b2 : Int} {b3 : Int} {b4 : Value} {w : World} (h4 : b4.oneCell' = true) (K : Value → Prop) : rdP P (Instr.build T_tree_Tree #[(0, .bool b0), (1, .agg (Rdr.cells (rVec 32) b1).toArray), (2, .int .i64 b2), (3, .int .i64 b3), (4, b4)]) w K = K (.agg (Rdr.cells Q_tree_Tree (b0, b1, b2, b3, b4, ((Value.slice none 0 0)))).toArray) := by
  refine rd_build ?_ K
  refine (built_struct z_tree_Tree U_tree_Tree pl_tree_Tree).trans ?_
  refine Eq.trans (fill_step (r := Q_tree_Tree) (s := rBool) (Fld.fst Fld.self) (a := (false, (vz 32), (0 : Int), (0 : Int), ((Value.map none)), ((Value.slice none 0 0)))) rfl rfl) ?_
  refine Eq.trans (fill_step (r := Q_tree_Tree) (s := (rVec 32)) (Fld.snd (Fld.fst Fld.self)) (a := (b0, (vz 32), (0 : Int), (0 : Int), ((Value.map none)), ((Value.slice none 0 0)))) rfl rfl) ?_
  refine Eq.trans (fill_step (r := Q_tree_Tree) (s := (rInt .i64)) (Fld.snd (Fld.snd (Fld.fst Fld.self))) (a := (b0, b1, (0 : Int), (0 : Int), ((Value.map none)), ((Value.slice none 0 0)))) rfl rfl) ?_
  refine Eq.trans (fill_step (r := Q_tree_Tree) (s := (rInt .i64)) (Fld.snd (Fld.snd (Fld.snd (Fld.fst Fld.self)))) (a := (b0, b1, b2, (0 : Int), ((Value.map none)), ((Value.slice none 0 0)))) rfl rfl) ?_
  refine Eq.trans (fill_step (r := Q_tree_Tree) (s := qv) (Fld.snd (Fld.snd (Fld.snd (Fld.snd (Fld.fst Fld.self))))) (a := (b0, b1, b2, b3, ((Value.map none)), ((Value.slice none 0 0)))) rfl (cells_one h4)) ?_
  rfl
theorem B_tree_Tree_0_1_2_3_4_5 {b0 : Bool} {b1} {b2 : Int} {b3 : Int} {b4 : Value} {b5 : Value} {w : World} (h4 : b4.oneCell' = true) (h5 : b5.oneCell' = true) (K : Value → Prop) : rdP P (Instr.build T_tree_Tree #[(0, .bool b0), (1, .agg (Rdr.cells (rVec 32) b1).toArray), (2, .int .i64 b2), (3, .int .i64 b3), (4, b4), (5, b5)]) w K = K (.agg (Rdr.cells Q_tree_Tree (b0, b1, b2, b3, b4, b5)).toArray) := by
  refine rd_build ?_ K
  refine (built_struct z_tree_Tree U_tree_Tree pl_tree_Tree).trans ?_
  refine Eq.trans (fill_step (r := Q_tree_Tree) (s := rBool) (Fld.fst Fld.self) (a := (false, (vz 32), (0 : Int), (0 : Int), ((Value.map none)), ((Value.slice none 0 0)))) rfl rfl) ?_
  refine Eq.trans (fill_step (r := Q_tree_Tree) (s := (rVec 32)) (Fld.snd (Fld.fst Fld.self)) (a := (b0, (vz 32), (0 : Int), (0 : Int), ((Value.map none)), ((Value.slice none 0 0)))) rfl rfl) ?_
  refine Eq.trans (fill_step (r := Q_tree_Tree) (s := (rInt .i64)) (Fld.snd (Fld.snd (Fld.fst Fld.self))) (a := (b0, b1, (0 : Int), (0 : Int), ((Value.map none)), ((Value.slice none 0 0)))) rfl rfl) ?_
  refine Eq.trans (fill_step (r := Q_tree_Tree) (s := (rInt .i64)) (Fld.snd (Fld.snd (Fld.snd (Fld.fst Fld.self)))) (a := (b0, b1, b2, (0 : Int), ((Value.map none)), ((Value.slice none 0 0)))) rfl rfl) ?_
  refine Eq.trans (fill_step (r := Q_tree_Tree) (s := qv) (Fld.snd (Fld.snd (Fld.snd (Fld.snd (Fld.fst Fld.self))))) (a := (b0, b1, b2, b3, ((Value.map none)), ((Value.slice none 0 0)))) rfl (cells_one h4)) ?_
  refine Eq.trans (fill_step (r := Q_tree_Tree) (s := qv) (Fld.snd (Fld.snd (Fld.snd (Fld.snd (Fld.snd Fld.self))))) (a := (b0, b1, b2, b3, b4, ((Value.slice none 0 0)))) rfl (cells_one h5)) ?_
  rfl
theorem B_pack_Packer_1 {b1 : Int} {w : World}  (K : Value → Prop) : rdP P (Instr.build T_pack_Packer #[(1, .int .i64 b1)]) w K = K (.agg (Rdr.cells Q_pack_Packer ((false, ((Value.slice none 0 0)), (0 : Int)), b1)).toArray) := by
  refine rd_build ?_ K
  refine (built_struct z_pack_Packer U_pack_Packer pl_pack_Packer).trans ?_
  refine Eq.trans (fill_step (r := Q_pack_Packer) (s := (rInt .i64)) (Fld.snd Fld.self) (a := ((false, ((Value.slice none 0 0)), (0 : Int)), (0 : Int))) rfl rfl) ?_
  rfl
abbrev R_int64 := (rInt .i64)
theorem TR_int64 : Trods P T_int64 R_int64 := trods_int U_int64
abbrev R_int := (rInt .i64)
theorem TR_int : Trods P T_int R_int := trods_int U_int
abbrev R_api_ID := (rVec 32)
theorem TR_api_ID : Trods P T_api_ID R_api_ID := trods_vec U_api_ID U_uint8 (by kernel_rfl) (by kernel_rfl)
theorem O_api_ID {H : Type} {enc : TypeId × Value → H} {w : World} {sp : Nat → Bool} {held : Bool} {fuel : Nat} {cs : Array Value} {x : DataW H × List MemPlace} (h : DataW.trod enc P w 0 sp held fuel T_api_ID cs.toList = some x) : ∃ a, cs = (Rdr.cells R_api_ID a).toArray ∧ Rdr.ok R_api_ID w.heap a := by
  obtain ⟨a, e, ok⟩ := TR_api_ID H enc w sp held fuel _ x h
  exact ⟨a, by apply Array.ext'; exact e, ok⟩
abbrev R_sl_uint8 := rBytes
theorem TR_sl_uint8 : Trods P T_sl_uint8 R_sl_uint8 := trods_bytes U_sl_uint8 U_uint8 (by kernel_rfl)
abbrev R_api_Block := (Rdr.pair R_api_ID (Rdr.pair R_int64 R_sl_uint8))
theorem TR_api_Block : Trods P T_api_Block R_api_Block := trods_struct U_api_Block (by kernel_rfl) (trodsF_cons (by kernel_rfl) (by kernel_rfl) TR_api_ID (trodsF_cons (by kernel_rfl) (by kernel_rfl) TR_int64 (trodsF_last (by kernel_rfl) (by kernel_rfl) TR_sl_uint8)))
theorem O_api_Block {H : Type} {enc : TypeId × Value → H} {w : World} {sp : Nat → Bool} {held : Bool} {fuel : Nat} {cs : Array Value} {x : DataW H × List MemPlace} (h : DataW.trod enc P w 0 sp held fuel T_api_Block cs.toList = some x) : ∃ a, cs = (Rdr.cells R_api_Block a).toArray ∧ Rdr.ok R_api_Block w.heap a := by
  obtain ⟨a, e, ok⟩ := TR_api_Block H enc w sp held fuel _ x h
  exact ⟨a, by apply Array.ext'; exact e, ok⟩
abbrev R_api_Vote := (Rdr.pair R_api_ID R_int)
theorem TR_api_Vote : Trods P T_api_Vote R_api_Vote := trods_struct U_api_Vote (by kernel_rfl) (trodsF_cons (by kernel_rfl) (by kernel_rfl) TR_api_ID (trodsF_last (by kernel_rfl) (by kernel_rfl) TR_int))
abbrev R_sl_api_Vote := (rSl R_api_Vote)
theorem TR_sl_api_Vote : Trods P T_sl_api_Vote R_sl_api_Vote := trods_sl TR_api_Vote U_sl_api_Vote (by kernel_rfl) (by decide)
theorem O_sl_api_Vote {H : Type} {enc : TypeId × Value → H} {w : World} {sp : Nat → Bool} {held : Bool} {fuel : Nat} {v : Value} {x : DataW H × List MemPlace} (h : DataW.trod enc P w 0 sp held fuel T_sl_api_Vote [v] = some x) : ∃ l, Rdr.ok R_sl_api_Vote w.heap ⟨v, l⟩ := by
  obtain ⟨⟨v', l⟩, e, ok⟩ := TR_sl_api_Vote H enc w sp held fuel _ x h
  have ev : v = v' := (List.cons.inj e).1
  subst ev
  exact ⟨l, ok⟩
theorem UT_bytes : P.underlying T_sl_uint8 = some (.slice T_uint8) := U_sl_uint8
theorem ST_bytes : SlT P T_sl_uint8 T_uint8 1 1 := S_sl_uint8
theorem ZC_uint8 : zc P T_uint8 = #[.int .u8 0] := by kernel_rfl
theorem UT_uint8 : P.underlying T_uint8 = some (.int .u8) := U_uint8
theorem UT_string : P.underlying T_string = some .string := by kernel_rfl
end Go.Fx
set_option linter.unusedVariables false
set_option linter.unusedSimpArgs false
namespace Go.Fx
/-- So many bytes of a name, the others nothing. -/
def part (o : List UInt8) (i : Nat) : List UInt8 := o.take i ++ List.replicate (o.length - i) 0
theorem part_len (o : List UInt8) {i : Nat} (hi : i ≤ o.length) : (part o i).length = o.length := by simp [part]; omega
theorem part_set {o : List UInt8} {i : Nat} {b : UInt8} (hb : o[i]? = some b) : (part o i).set i b = part o (i + 1) := by
  have hi := (List.getElem?_eq_some_iff.1 hb).1
  have hl : (o.take i).length = i := by simp; omega
  unfold part
  rw [List.set_append_right _ _ (by omega), hl, Nat.sub_self, show o.length - i = (o.length - (i + 1)) + 1 by omega, List.replicate_succ, List.set_cons_zero, List.take_add_one, hb]
  simp
theorem part_zero (o : List UInt8) : part o 0 = List.replicate o.length 0 := by simp [part]
theorem part_all {o : List UInt8} : part o o.length = o := by simp [part]
section
variable {w0 w : World} {As : List Asn} {b s : Value} {l m : List UInt8}
theorem st_b {g i : Nat} {o : List UInt8} {t : TypeId} {u : UInt8} {K : World → Prop} (hs : Sep w0 w (blk g (bvs (part o i)).toArray t :: As)) (hu : o[i]? = some u)
    (h : ∀ w', Sep w0 w' (blk g (bvs (part o (i + 1))).toArray t :: As) → K w') : st1 (.pointer (some ⟨g, i, none⟩)) (bv u) w K := by
  have hi := (List.getElem?_eq_some_iff.1 hu).1
  refine st1_s hs (by simp [bvs, part_len o (Nat.le_of_lt hi)]; omega) rfl fun w' hs' => h w' ?_
  have e : (bvs (part o i)).toArray.setIfInBounds i (bv u) = (bvs (part o (i + 1))).toArray := by
    rw [← part_set hu]
    apply Array.ext'
    simp [bvs, List.map_set]
  rw [e] at hs'
  exact hs'
theorem ixa_w {g n : Nat} (k : IntKind) {i : Nat} (hi : i < n) (K : Value → Prop) : ixa n 1 (.pointer (some ⟨g, 0, none⟩)) (.int k (i : Int)) K = K (.pointer (some ⟨g, i, none⟩)) := by
  rw [ixa_mk _ _ _ _ _ _ _ (by omega) (by omega), Int.toNat_natCast, Nat.zero_add, Nat.mul_one]
theorem app1 {u : UInt8} {K : Value → World → Prop} (hs : Sep w0 w (ownB s l :: As)) (hl : l.length ≤ 1000000) (hk : ∀ v' w', Sep w0 w' (ownB v' (l ++ [u]) :: As) → K v' w') :
    efP P (Instr.buildSlice T_sl_uint8 1 #[(0, bv u)]) w fun t w => efP P (Builtin.append_ #[T_sl_uint8, T_sl_uint8] T_sl_uint8 #[s, t]) w K := by
  have hr : ∀ w : World, (Instr.buildSlice T_sl_uint8 1 #[(0, bv u)]).run P w = .ok (.slice (some ⟨w.heap.size, 0, none⟩) 1 1) (w.alloc (.cells (bvs [u]).toArray T_uint8)) := fun w => by kernel_rfl
  refine buildB_s (l := [u]) hs rfl (hr w) fun g w1 h1 => ?_
  exact appB_s S_sl_uint8 U_sl_uint8 (by simp) h1.p1 h1.rd (by simp; omega) fun v' w' h2 => hk v' w' h2.d1
theorem app0 {K : Value → World → Prop} (j : Int) (hj : j = 0 ∨ j = 128) (hs : Sep w0 w (ownB s l :: As)) (hl : l.length ≤ 1000000) (hk : ∀ v' w', Sep w0 w' (ownB v' (l ++ [if j = 0 then 0 else 128]) :: As) → K v' w') :
    efP P (Instr.buildSlice T_sl_uint8 1 #[(0, .int .u8 j)]) w fun t w => efP P (Builtin.append_ #[T_sl_uint8, T_sl_uint8] T_sl_uint8 #[s, t]) w K := by
  rcases hj with rfl | rfl
  · exact app1 (u := 0) hs hl hk
  · exact app1 (u := 128) hs hl hk
theorem bClone_spec (hb : RdB w.heap b l) (hl : l.length ≤ 140737488355328) : cal P f_bytes_Clone [b] w fun r w' => Sep w w' [ownB r l] := by
  refine s_bytes_Clone fun R hR => ?_
  unfold c_bytes_Clone
  obtain ⟨a, c, hv, hl', hh⟩ := id hb
  subst hv
  cases a with
  | none =>
    have h0 : l = [] := by
      rcases hh with h0 | ⟨_, _, _, _, _, h, _⟩
      · exact List.eq_nil_of_length_eq_zero (by omega)
      · cases h
    subst h0
    simp only [fx, Nat.reduceAdd, forall_const]
    exact hR _ _ (Sep.start w).nil
  | some a =>
    simp only [fx, Nat.reduceAdd, forall_const]
    have hb1 : ∀ w : World, (Instr.buildSlice T_sl_uint8 0 #[]).run P w = .ok (.slice (some ⟨w.heap.size, 0, none⟩) 0 0) (w.alloc (.cells (bvs []).toArray T_uint8)) := fun w => by kernel_rfl
    refine buildB_s (l := []) (Sep.start w) rfl (hb1 _) fun g w1 hs => ?_
    refine appB_s S_sl_uint8 U_sl_uint8 (by simp) hs (hs.rdB hb) (by simp; omega) fun v' w2 hs => ?_
    exact hR _ _ (by simpa using hs)
end
end Go.Fx
set_option linter.unusedVariables false
set_option linter.unusedSimpArgs false
namespace Go.Fx
/-! ### Some of the assertions, in an order -/
def pickL (L : List Asn) : List Nat → List Asn → List Asn
  | [], T => T
  | i :: is, T => match L[i]? with
    | some A => A :: pickL L is T
    | none => pickL L is T
theorem sub_perm {α : Type} : ∀ (X P : List α), X.Nodup → (∀ x ∈ X, x ∈ P) → ∃ rest, P.Perm (X ++ rest)
  | [], P, _, _ => ⟨P, .refl _⟩
  | x :: X, P, hn, hs => by
    obtain ⟨s, t, rfl⟩ := List.append_of_mem (hs x (by simp))
    have hn' := List.nodup_cons.1 hn
    obtain ⟨rest, hr⟩ := sub_perm X (s ++ t) hn'.2 fun y hy => by
      have := hs y (by simp [hy])
      simp only [List.mem_append, List.mem_cons] at this ⊢
      rcases this with h | h | h
      · exact .inl h
      · subst h; exact absurd hy hn'.1
      · exact .inr h
    exact ⟨rest, List.perm_middle.trans (hr.cons x)⟩
theorem pickL_eq (L : List Asn) (T : List Asn) : ∀ is : List Nat, pickL L is T = (is.filterMap fun i => L.zipIdx[i]?).map (·.1) ++ T
  | [] => rfl
  | i :: is => by
    rw [pickL, List.filterMap_cons]
    cases h : L[i]? with
    | none =>
      have : L.zipIdx[i]? = none := by simpa using h
      rw [this]
      exact pickL_eq L T is
    | some A =>
      have : L.zipIdx[i]? = some (A, i) := by rw [List.getElem?_zipIdx, h]; simp
      rw [this]
      simp only [List.map_cons, List.cons_append]
      rw [pickL_eq L T is]
theorem pick_nodup (L : List Asn) : ∀ is : List Nat, is.Nodup → (is.filterMap fun i => L.zipIdx[i]?).Nodup ∧ ∀ x ∈ (is.filterMap fun i => L.zipIdx[i]?), x.2 ∈ is
  | [], _ => ⟨by simp, by simp⟩
  | i :: is, h => by
    have h' := List.nodup_cons.1 h
    obtain ⟨h1, h2⟩ := pick_nodup L is h'.2
    rw [List.filterMap_cons]
    cases hi : L.zipIdx[i]? with
    | none => exact ⟨h1, fun x hx => by simp [h2 x hx]⟩
    | some x =>
      have hx : x.2 = i := by
        rw [List.getElem?_zipIdx] at hi
        cases hL : L[i]? with
        | none => simp [hL] at hi
        | some A => simp [hL] at hi; rw [← hi]
      refine ⟨List.nodup_cons.2 ⟨fun hm => h'.1 (hx ▸ h2 x hm), h1⟩, fun y hy => ?_⟩
      rcases List.mem_cons.1 hy with rfl | hy
      · simp [hx]
      · simp [h2 y hy]
theorem Sep.dropL {w0 w : World} : ∀ {As Bs : List Asn}, Sep w0 w (As ++ Bs) → Sep w0 w Bs
  | [], _, h => h
  | _ :: As, _, h => Sep.dropL (As := As) h.tail
/-- The assertions at these places of the first n, and all behind these n. -/
theorem Sep.pick {w0 w : World} {As : List Asn} (h : Sep w0 w As) (is : List Nat) (n : Nat) (hn : is.Nodup := by decide) : Sep w0 w (pickL (As.take n) is (As.drop n)) := by
  obtain ⟨h1, h2⟩ := pick_nodup (As.take n) is hn
  obtain ⟨rest, hr⟩ := sub_perm (is.filterMap fun i => (As.take n).zipIdx[i]?) (As.take n).zipIdx h1 fun x hx => by
    obtain ⟨i, _, hi⟩ := List.mem_filterMap.1 hx
    exact List.mem_of_getElem? hi
  rw [pickL_eq]
  have hp := hr.map (·.1)
  rw [List.map_append, List.zipIdx_map_fst] at hp
  have h3 : Sep w0 w ((rest.map (·.1)) ++ ((is.filterMap fun i => (As.take n).zipIdx[i]?).map (·.1) ++ As.drop n)) := by
    refine h.perm ?_
    have e := List.take_append_drop n As
    rw [← List.append_assoc]
    refine (List.Perm.of_eq e.symm).trans (List.Perm.append_right _ (hp.trans List.perm_append_comm))
  exact h3.dropL
/-! ### '[]byte("..")': new memory that is only read -/
def rdA (v : Value) (l : List UInt8) : Asn where
  on h F := ∃ g o c cur t fr, v = .slice (some ⟨g, o, none⟩) l.length c ∧ h[g]? = some (.cells cur t fr) ∧ (cur.toList.drop o).take l.length = bvs l ∧ l.length ≤ c ∧ F = [g]
  fr := fun ⟨g, o, c, cur, t, fr, hv, hg, hc, hle, hF⟩ hf hn => ⟨g, o, c, cur, t, fr, hv, hf.blk hg (hn g (by simp [hF])), hc, hle, hF⟩
  lt := fun ⟨g, o, c, cur, t, fr, hv, hg, hc, hle, hF⟩ k hk => by simp [hF] at hk; subst hk; exact lt_of_blk hg
theorem Sep.rda {w0 w : World} {As : List Asn} {v : Value} {l : List UInt8} (h : Sep w0 w (rdA v l :: As)) : RdB w.heap v l := by
  obtain ⟨F, g, o, c, cur, t, fr, rfl, hg, hc, hle, rfl⟩ := h.head
  exact ⟨_, c, rfl, by simp [bvs], .inr ⟨g, o, cur, t, fr, rfl, hg, by rw [Nat.mul_one]; exact hc⟩⟩
theorem lit_s {P : Program} {w0 w : World} {As : List Asn} {t E n : Nat} {s : Sem Value} {l : List UInt8} {K : Value → World → Prop} (hs : Sep w0 w As) (ht : P.underlying t = some (.slice E)) (he : P.underlying E = some (.int .u8)) (hn : n = l.length)
    (hr : s.run P w = .ok (.slice (some ⟨w.heap.size, 0, none⟩) n n) (w.alloc (.cells (bvs l).toArray E))) (h : ∀ g w', Sep w0 w' (rdA (.slice (some ⟨g, 0, none⟩) n n) l :: As) → K (.slice (some ⟨g, 0, none⟩) n n) w') :
    efP P s w fun x w => efP P (convert t t x) w K := by
  subst hn
  refine ⟨_, _, hr, _, _, Lib.run_convert_bytes_const w t E _ _ _ ht he, h _ _ (hs.new (fr_alloc w _) (B := rdA _ _) (F' := [w.heap.size]) ⟨_, 0, _, _, E, _, rfl, alloc_new w _, by rw [List.drop_zero]; exact List.take_of_length_le (by simp [bvs]), Nat.le_refl _, rfl⟩ (by simp))⟩
theorem At.rd {h : Heap} {g o c : Nat} {l : List UInt8} (ha : At h g o (bvs l)) : RdB h (.slice (some ⟨g, o, none⟩) l.length c) l := by
  obtain ⟨cur, t, fr, hg, hn, hc⟩ := ha
  refine ⟨_, c, rfl, by simp [bvs], .inr ⟨g, o, cur, t, fr, rfl, hg, ?_⟩⟩
  rw [Nat.mul_one]
  rw [bvs_length] at hc
  exact hc
/-- 'x[:]', x an array. -/
theorem sla_all (len size g o : Nat) (K : Value → Prop) : sla len size (.pointer (some ⟨g, o, none⟩)) none none K = K (.slice (some ⟨g, o, none⟩) len len) := by
  have e : (if len = 0 then (⟨g, o, none⟩ : Addr) else Addr.add ⟨g, o, none⟩ (0 * size)) = ⟨g, o, none⟩ := by
    split
    · rfl
    · rw [Nat.zero_mul, Addr_add_mk, Nat.add_zero]
  refine propext ⟨?_, fun hk => ⟨_, rfl, ?_⟩⟩
  · rintro ⟨a, ha, hk⟩
    cases ha
    simp only [bndO, e, Nat.sub_zero] at hk
    exact hk
  · simp only [bndO, e, Nat.sub_zero]
    exact hk
section
variable {w0 w : World} {As : List Asn} {g n v : Nat} {s ha hc : Value} {a b c : List UInt8}
theorem rdNil (z : World) : RdB z.heap (.slice none 0 0) [] := ⟨none, 0, rfl, rfl, .inl rfl⟩
theorem numberS (hn : n ≤ 8) (hv : v < 18446744073709551616) : cal P f_pack_number [.int .i64 n, .int .u64 v] w fun r w' => Sep w w' [ownB r (be n v)] := by
  refine s_pack_number fun R hR => ?_
  unfold c_pack_number
  refine mkB_s (Sep.start w) ST_bytes ZC_uint8 (by omega) fun g w1 hs => ?_
  simp only [fx, Nat.reduceAdd, forall_const]
  refine ⟨fun a w2 => ∃ i : Nat, i ≤ n ∧ a = .int .i64 i ∧ Sep w w2 [ownB (.slice (some ⟨g, 0, none⟩) n n) (List.replicate (n - i) 0 ++ be i v)], fun a _ => n - (RowKit.intOf a).toNat, ⟨0, by omega, rfl, by simpa [be] using hs⟩, ?_⟩
  rintro _ w2 ⟨i, hi, rfl, hs2⟩ -
  simp only [fx, Nat.reduceAdd, forall_const]
  rw [cnd_bool]
  refine ⟨fun h => ?_, fun h => ?_⟩
  · have hlt : i < n := by simpa using h
    simp (disch := omega) only [fx, Nat.reduceAdd, forall_const, wi64, sh_shr]
    have e1 : IntKind.u64.bits = 64 := rfl
    have e2 : (n : Int) - 1 - i = ((n - 1 - i : Nat) : Int) := by omega
    rw [e1, shr8 v i (by omega), bv_of _ (Int.natCast_nonneg _), Int.toNat_natCast, e2]
    refine stxB_s hs2 (by simp [be_length]; omega) _ fun w3 hs3 => ?_
    refine ⟨⟨i + 1, by omega, by simp, ?_⟩, by simp [RowKit.intOf]; omega⟩
    have e3 : (List.replicate (n - i) (0 : UInt8) ++ be i v).set (n - 1 - i) (UInt8.ofNat (v / 256 ^ i)) = List.replicate (n - (i + 1)) 0 ++ be (i + 1) v := by
      rw [show n - i = (n - (i + 1)) + 1 by omega, List.replicate_succ', List.append_assoc, List.set_append_right _ _ (by simp; omega), be_cons]
      congr 1
      rw [show n - 1 - i - (List.replicate (n - (i + 1)) (0 : UInt8)).length = 0 by simp; omega]
      rfl
    rw [← e3]
    exact hs3
  · have hlt : ¬ i < n := by simpa using h
    obtain rfl : i = n := by omega
    exact hR _ _ (by simpa using hs2)
abbrev pk (g : Nat) (s : Value) (n : Nat) : Asn := blk g (Rdr.cells Q_pack_Packer ((true, s, 0), (n : Int))).toArray T_pack_Packer
theorem worksS (hs : Sep w0 w (pk g s n :: As)) : cal P f_pack_Packer_works [.pointer (some ⟨g, 0, none⟩)] w fun r w' => r = .bool true ∧ w = w' := by
  refine s_pack_Packer_works fun R hR => ?_
  unfold c_pack_Packer_works
  simp only [fx, Nat.reduceAdd, forall_const, L_pack_Packer hs.blk, L_pack_Packer__kept hs.blk, L_pack_Packer__kept_made hs.blk, L_pack_Packer__kept_b hs.blk, L_pack_Packer__kept_err hs.blk, L_pack_Packer__limit hs.blk]
  exact hR _ _ ⟨rfl, rfl⟩
theorem putS (hs : Sep w0 w (pk g s n :: ownB s b :: As)) (hra : ∀ z, Sep w0 z As → RdB z.heap ha a) (hrc : ∀ z, Sep w0 z As → RdB z.heap hc c) (hn : n ≤ 8192) (hf : b.length + a.length + c.length ≤ n) :
    cal P f_pack_Packer_put [.pointer (some ⟨g, 0, none⟩), ha, hc] w fun v w' => v = .tuple #[] ∧ ∃ s', Sep w0 w' (pk g s' n :: ownB s' (b ++ a ++ c) :: As) := by
  refine s_pack_Packer_put fun R hR => ?_
  unfold c_pack_Packer_put
  refine cal_i (worksS hs) ?_
  rintro _ _ ⟨rfl, rfl⟩
  simp only [fx, Nat.reduceAdd, forall_const]
  refine drw_s hs fun w1 hs1 _ => ?_
  have hlb := (Sep.rd hs1.p1).len
  have hla := (hra _ hs1.tail.tail).len
  have hlc := (hrc _ hs1.tail.tail).len
  simp only [fx, Nat.reduceAdd, forall_const, L_pack_Packer hs1.blk, L_pack_Packer__kept hs1.blk, L_pack_Packer__kept_made hs1.blk, L_pack_Packer__kept_b hs1.blk, L_pack_Packer__kept_err hs1.blk, L_pack_Packer__limit hs1.blk, hlb, hla, hlc]
  rw [wi64 (x := (n : Int) - b.length) (by omega) (by omega), decide_eq_false (by omega)]
  simp only [fx, Nat.reduceAdd, forall_const]
  rw [wi64 (by omega) (by omega), decide_eq_false (by omega)]
  simp only [fx, Nat.reduceAdd, forall_const, L_pack_Packer hs1.blk, L_pack_Packer__kept hs1.blk, L_pack_Packer__kept_made hs1.blk, L_pack_Packer__kept_b hs1.blk, L_pack_Packer__kept_err hs1.blk, L_pack_Packer__limit hs1.blk]
  refine appB_s ST_bytes UT_bytes (by simp) hs1.p1 (hra _ hs1.tail.tail) (by omega) fun s1 w2 hs2 => ?_
  refine appB_s ST_bytes UT_bytes (by simp) hs2 (hrc _ hs2.tail.tail) (by simp; omega) fun s2 w3 hs3 => ?_
  refine St_pack_Packer__kept_b hs3.p1 (Sep.one hs3) fun w4 hs4 => ?_
  exact hR _ _ ⟨rfl, s2, hs4⟩
theorem NewS (n : Nat) (hn : n ≤ 8192) : cal P f_pack_New [.int .i64 n] w fun v w' => ∃ g, v = .pointer (some ⟨g, 0, none⟩) ∧ Sep w w' [pk g (.slice none 0 0) n, ownB (.slice none 0 0) []] := by
  refine s_pack_New fun R hR => ?_
  unfold c_pack_New
  rw [B_pack_Packer_1]
  refine bx_s (Sep.start w).nil fun g w1 hs => ?_
  simp only [fx, Nat.reduceAdd, forall_const]
  refine St_pack_Packer__kept_made hs fun w2 hs2 => ?_
  rw [decide_eq_false (by omega), decide_eq_false (by omega)]
  simp only [fx, Nat.reduceAdd, forall_const]
  exact hR _ _ ⟨g, rfl, hs2⟩
/-- What a call on a packer gives. -/
def PkQ (w0 : World) (As : List Asn) (g n : Nat) (b : List UInt8) (v : Value) (w' : World) : Prop := v = .tuple #[] ∧ ∃ s', Sep w0 w' (pk g s' n :: ownB s' b :: As)
section
variable (hs : Sep w0 w (pk g s n :: ownB s b :: As)) (hn : n ≤ 8192)
include hs hn
theorem putnumS {m : Nat} {K : World → Prop} (hrc : ∀ z, Sep w0 z As → RdB z.heap hc c) (hm : m ≤ 8) (hv : v < 18446744073709551616) (hf : b.length + m + c.length ≤ n) (h : ∀ s' w', Sep w0 w' (pk g s' n :: ownB s' (b ++ (be m v ++ c)) :: As) → K w') :
    cal P f_pack_number [.int .i64 m, .int .u64 v] w fun t w => cal P f_pack_Packer_put [.pointer (some ⟨g, 0, none⟩), t, hc] w fun _ w => K w := by
  refine cal_i (numberS hm hv) ?_
  rintro t w1 hs1
  replace hs1 := (hs.join hs1).q2
  refine cal_i (putS (As := ownB t (be m v) :: As) hs1 (fun z hz => Sep.rd hz) (fun z hz => hrc z hz.tail) hn (by rw [be_length]; omega)) ?_
  rintro _ w2 ⟨rfl, s', hs2⟩
  have := hs2.d2
  rw [List.append_assoc] at this
  exact h s' w2 this
theorem ShortS (hv : v < 65536) (hf : b.length + 2 ≤ n) : cal P f_pack_Packer_Short [.pointer (some ⟨g, 0, none⟩), .int .u16 v] w (PkQ w0 As g n (b ++ be 2 v)) := by
  refine s_pack_Packer_Short fun R hR => ?_
  unfold c_pack_Packer_Short
  simp (disch := omega) only [fx, Nat.reduceAdd, forall_const, wu64i]
  refine putnumS (m := 2) hs hn (c := []) (fun z _ => rdNil z) (by omega) (by omega) (by simpa using hf) fun s' w' h => ?_
  rw [List.append_nil] at h
  exact hR _ _ ⟨rfl, s', h⟩
theorem LongS (hv : v < 18446744073709551616) (hf : b.length + 8 ≤ n) : cal P f_pack_Packer_Long [.pointer (some ⟨g, 0, none⟩), .int .u64 v] w (PkQ w0 As g n (b ++ be 8 v)) := by
  refine s_pack_Packer_Long fun R hR => ?_
  unfold c_pack_Packer_Long
  refine putnumS (m := 8) hs hn (c := []) (fun z _ => rdNil z) (by omega) hv (by simpa using hf) fun s' w' h => ?_
  rw [List.append_nil] at h
  exact hR _ _ ⟨rfl, s', h⟩
theorem FixedS (hrc : ∀ z, Sep w0 z As → RdB z.heap hc c) (hf : b.length + c.length ≤ n) : cal P f_pack_Packer_Fixed [.pointer (some ⟨g, 0, none⟩), hc] w (PkQ w0 As g n (b ++ c)) := by
  refine s_pack_Packer_Fixed fun R hR => ?_
  unfold c_pack_Packer_Fixed
  refine cal_i (putS (a := []) hs (fun z _ => rdNil z) hrc hn (by simpa using hf)) ?_
  rintro _ w' ⟨rfl, s', h⟩
  rw [List.append_nil] at h
  exact hR _ _ ⟨rfl, s', h⟩
theorem BytesS (hrc : ∀ z, Sep w0 z As → RdB z.heap hc c) (hf : b.length + 4 + c.length ≤ n) : cal P f_pack_Packer_Bytes [.pointer (some ⟨g, 0, none⟩), hc] w (PkQ w0 As g n (b ++ (be 4 c.length ++ c))) := by
  refine s_pack_Packer_Bytes fun R hR => ?_
  unfold c_pack_Packer_Bytes
  simp (disch := omega) only [fx, Nat.reduceAdd, forall_const, (hrc _ hs.tail.tail).len, wu64i]
  exact putnumS (m := 4) hs hn hrc (by omega) (by omega) (by omega) fun s' w' h => hR _ _ ⟨rfl, s', h⟩
omit hn in
theorem OutS (hb : b.length ≤ 8192) : cal P f_pack_Packer_Out [.pointer (some ⟨g, 0, none⟩)] w fun v w' => ∃ r, v = .tuple #[r, .int .i64 0] ∧ Sep w0 w' (ownB r b :: pk g s n :: ownB s b :: As) := by
  refine s_pack_Packer_Out fun R hR => ?_
  unfold c_pack_Packer_Out
  have herr : cal P f_pack_Packer_Err [.pointer (some ⟨g, 0, none⟩)] w fun v w' => v = .int .i64 0 ∧ w = w' := by
    refine s_pack_Packer_Err fun R hR => ?_
    unfold c_pack_Packer_Err
    simp only [fx, Nat.reduceAdd, forall_const, L_pack_Packer hs.blk, L_pack_Packer__kept hs.blk, L_pack_Packer__kept_made hs.blk, L_pack_Packer__kept_b hs.blk, L_pack_Packer__kept_err hs.blk, L_pack_Packer__limit hs.blk]
    exact hR _ _ ⟨rfl, rfl⟩
  refine cal_i herr ?_
  rintro _ _ ⟨rfl, rfl⟩
  simp only [fx, Nat.reduceAdd, forall_const, L_pack_Packer hs.blk, L_pack_Packer__kept hs.blk, L_pack_Packer__kept_made hs.blk, L_pack_Packer__kept_b hs.blk, L_pack_Packer__kept_err hs.blk, L_pack_Packer__limit hs.blk, (Sep.rd hs.p1).len, show ((0 : Int) != 0) = false from rfl]
  refine mkB_s hs ST_bytes ZC_uint8 (by omega) fun g1 w1 hs1 => ?_
  simp only [fx, Nat.reduceAdd, forall_const, L_pack_Packer (Sep.p1 hs1).blk, L_pack_Packer__kept (Sep.p1 hs1).blk, L_pack_Packer__kept_made (Sep.p1 hs1).blk, L_pack_Packer__kept_b (Sep.p1 hs1).blk, L_pack_Packer__kept_err (Sep.p1 hs1).blk, L_pack_Packer__limit (Sep.p1 hs1).blk]
  refine cpyB_s ST_bytes hs1 (Sep.rd hs1.p2) fun w2 hs2 => ?_
  have e1 : b.take (List.replicate b.length (0 : UInt8)).length ++ (List.replicate b.length (0 : UInt8)).drop b.length = b := by simp
  rw [e1] at hs2
  exact hR _ _ ⟨_, rfl, hs2⟩
end
end
end Go.Fx
set_option linter.unusedVariables false
set_option linter.unusedSimpArgs false
namespace Go.Fx
section
variable {w0 w : World} {As : List Asn} {g n v : Nat} {s : Value} {a b c l : List UInt8} {e : Int}
end
end Go.Fx
set_option linter.unusedVariables false
set_option linter.unusedSimpArgs false
namespace Go.Fx
theorem Sep.onL {w0 w : World} {As : List Asn} {A : Asn} (h : Sep w0 w As) (hm : A ∈ As) : ∃ F, A.on w.heap F := by
  obtain ⟨s, t, rfl⟩ := List.append_of_mem hm
  exact h.dropL.head
/-- One more behind the last one. -/
theorem Sep.put {w0 w : World} {α : Type} {f : α → Asn} {Xs T : List Asn} {L : List α} {s : α} (h : Sep w0 w (f s :: (Xs ++ (L.map f ++ T)))) : Sep w0 w (Xs ++ ((L ++ [s]).map f ++ T)) := by
  refine h.perm ?_
  rw [List.map_append, List.append_assoc, ← List.append_assoc, ← List.append_assoc]
  exact List.perm_middle.symm
theorem Sep.dropR {w0 w : World} {As Bs : List Asn} (h : Sep w0 w (As ++ Bs)) : Sep w0 w As := (h.perm List.perm_append_comm).dropL
/-- One out of the middle. -/
theorem Sep.mid {w0 w : World} {As Bs : List Asn} {A : Asn} (h : Sep w0 w (As ++ A :: Bs)) : Sep w0 w (A :: (As ++ Bs)) := h.perm List.perm_middle
theorem rdS_ld {S : World → Prop} {p v : Value} {K : Value → Prop} (hS : ∀ u, S u → ∀ K : Value → Prop, K v → ld1 p u.heap K) (hk : K v) : rdS S (fun w => ld1 p w.heap) K := ⟨v, fun u hu => hS u hu _ rfl, hk⟩
theorem At.byte {h : Heap} {g o i : Nat} {a : List UInt8} (ha : At h g o (bvs a)) (hi : i < a.length) (K : Value → Prop) : Go.Fx.ld1 (.pointer (some ⟨g, o + i, none⟩)) h K = K (bv a[i]) := by
  have h1 : bvs a = bvs (a.take i) ++ [bv a[i]] ++ bvs (a.drop (i + 1)) := by
    have e : a = a.take i ++ a[i] :: a.drop (i + 1) := by rw [← List.drop_eq_getElem_cons, List.take_append_drop]
    unfold bvs
    conv => lhs; rw [e]
    rw [List.map_append, List.map_cons]
    simp only [List.append_assoc, List.singleton_append]
  rw [h1] at ha
  exact (ha.part (k := i) (by simp [bvs]; omega)).ld1 K
/-- 'l[j][i]', l a slice of names. -/
theorem Rows'.byte {w : World} {v : Value} {l : List (Vec 32)} {j i : Nat} {a : Vec 32} (hr : Rows' (rVec 32) w.heap v l) (hj : l[j]? = some a) (hi : i < 32) {K : Value → Prop} (h : K (bv (a.1[i]'(by rw [a.2]; exact hi)))) :
    ixs 32 v (.int .i64 (j : Int)) fun t => ixa 32 1 t (.int .i64 (i : Int)) fun p => Go.Fx.ld1 p w.heap K := by
  obtain ⟨g, o, ha, hx⟩ := hr.ix (by decide) hj
  have hx' : ∀ K, ixs 32 v (.int .i64 (j : Int)) K = K (.pointer (some ⟨g, o, none⟩)) := hx .i64
  rw [hx', ixa_mk _ _ _ _ _ _ _ (by omega) (by omega), Int.toNat_natCast, Nat.mul_one, At.byte (a := a.1) ha (by rw [a.2]; exact hi)]
  exact h
theorem rd_vec {w0 z : World} {As : List Asn} {g n c : Nat} {a : Vec n} {T : TypeId} (h : Sep w0 z (blk g (Rdr.cells (rVec n) a).toArray T :: As)) : RdB z.heap (.slice (some ⟨g, 0, none⟩) n c) a.1 := by
  have hat : At z.heap g 0 (bvs a.1) := At.blk (cs := Rdr.cells (rVec n) a) h.blk
  have := At.rd (c := c) hat
  rwa [a.2] at this
theorem RdB.mid {h : Heap} {av : Option Addr} {cv i j : Nat} {l : List UInt8} (hr : RdB h (.slice av l.length cv) l) (hc : l.length ≤ cv) (hi : i ≤ j) (hj : j ≤ l.length) : RdB h (.slice (if cv = i then av else av.map (·.add (i * 1))) (j - i) (cv - i)) ((l.drop i).take (j - i)) :=
  (hr.drop (k := i) (by omega) hc (cv - i)).take (k := j - i) (by omega) (cv - i)
theorem parts_drop {α β : Type} {s : Nat} {g : α → List β} (hg : ∀ a, (g a).length = s) : ∀ (l : List α) (k : Nat), (l.flatMap g).drop (k * s) = (l.drop k).flatMap g
  | [], k => by simp
  | b :: l, 0 => by simp
  | b :: l, k + 1 => by
    rw [List.drop_succ_cons, List.flatMap_cons, ← parts_drop hg l k, Nat.succ_mul, Nat.add_comm, ← List.drop_drop, List.drop_left' (hg b)]
theorem Rows'.take {α : Type} {q : Rdr α} {h : Heap} {a : Option Addr} {n c k : Nat} {l : List α} (hr : Rows' q h (.slice a n c) l) (hk : k ≤ l.length) (c' : Nat) : Rows' q h (.slice a k c') (l.take k) := by
  have hn : n = l.length := by obtain ⟨_, _, hv, _⟩ := hr; cases hv; rfl
  subst hn
  have := Cel.take (k := k) hr hk c'
  unfold Rows'
  rw [parts_take q.len] at this
  rw [List.length_take, Nat.min_eq_left hk]
  exact this
theorem Rows'.drop {α : Type} {q : Rdr α} {h : Heap} {a : Option Addr} {n c k : Nat} {l : List α} (hr : Rows' q h (.slice a n c) l) (hk : k ≤ l.length) (hc : l.length ≤ c) (c' : Nat) : Rows' q h (.slice (if c = k then a else a.map (·.add (k * q.size))) (n - k) c') (l.drop k) := by
  have hn : n = l.length := by obtain ⟨_, _, hv, _⟩ := hr; cases hv; rfl
  subst hn
  have := Cel.drop (k := k) hr hk hc c'
  unfold Rows'
  rw [parts_drop q.len] at this
  rw [List.length_drop]
  exact this
end Go.Fx
set_option linter.unusedVariables false
set_option linter.unusedSimpArgs false
namespace Go.Fx
abbrev W32 := BitVec 32
def wv (x : W32) : Value := .int .u32 (x.toNat : Int)
def wvs (l : List W32) : List Value := l.map wv
theorem ofInt_w (x : W32) : BitVec.ofInt 32 (x.toNat : Int) = x := by
  apply BitVec.eq_of_toNat_eq
  rw [BitVec.toNat_ofInt]
  have := x.isLt
  omega
theorem wu32w (x : W32) : IntKind.u32.wrap (x.toNat : Int) = (x.toNat : Int) := by
  have := x.isLt
  rw [wu32i (by omega) (by omega)]
section
variable (x y : W32) (K : Value → Prop)
theorem wv_add : bi .add (wv x) (wv y) K = K (wv (x + y)) := by
  unfold wv
  rw [bi_add, wu32, BitVec.toNat_add]
  have e : (((x.toNat + y.toNat) % 2 ^ 32 : Nat) : Int) = ((x.toNat : Int) + y.toNat) % 4294967296 := by omega
  rw [e]
theorem wv_xor : bi .xor (wv x) (wv y) K = K (wv (x ^^^ y)) := by
  unfold wv
  rw [bi_xor]
  show K (.int .u32 (IntKind.u32.wrap ((BitVec.ofInt 32 (x.toNat : Int) ^^^ BitVec.ofInt 32 (y.toNat : Int)).toNat : Int))) = _
  rw [ofInt_w, ofInt_w, wu32w]
theorem wv_and : bi .and (wv x) (wv y) K = K (wv (x &&& y)) := by
  unfold wv
  rw [bi_and]
  show K (.int .u32 (IntKind.u32.wrap ((BitVec.ofInt 32 (x.toNat : Int) &&& BitVec.ofInt 32 (y.toNat : Int)).toNat : Int))) = _
  rw [ofInt_w, ofInt_w, wu32w]
theorem wv_or : bi .or (wv x) (wv y) K = K (wv (x ||| y)) := by
  unfold wv
  rw [bi_or]
  show K (.int .u32 (IntKind.u32.wrap ((BitVec.ofInt 32 (x.toNat : Int) ||| BitVec.ofInt 32 (y.toNat : Int)).toNat : Int))) = _
  rw [ofInt_w, ofInt_w, wu32w]
theorem wv_shr (k : IntKind) {n : Nat} (hn : n ≤ 32) : sh .shr (wv x) (.int k (n : Int)) K = K (wv (x >>> n)) := by
  unfold wv
  rw [sh_shr _ _ _ _ _ (by omega)]
  have h1 : min ((n : Int)).toNat IntKind.u32.bits = n := by show min n 32 = n; omega
  rw [h1, BitVec.toNat_ushiftRight, Nat.shiftRight_eq_div_pow]
  have h2 : ((2 : Int) ^ n) = ((2 ^ n : Nat) : Int) := by simp
  rw [h2, Int.ofNat_fdiv]
theorem wv_shl (k : IntKind) {n : Nat} (hn : n ≤ 32) : sh .shl (wv x) (.int k (n : Int)) K = K (wv (x <<< n)) := by
  unfold wv
  rw [sh_shl _ _ _ _ _ (by omega)]
  have h1 : min ((n : Int)).toNat IntKind.u32.bits = n := by show min n 32 = n; omega
  rw [h1, wu32, BitVec.toNat_shiftLeft, Nat.shiftLeft_eq, Int.natCast_emod, Int.natCast_mul, Int.natCast_pow]
  rfl
theorem wv_not {w : World} {P : Program} : rdP P (Op.unary .xor (wv x)) w K = K (wv (~~~x)) := by
  refine rdP_eq ?_ K
  have e : BitVec.ofInt 32 (x.toNat : Int) = x := ofInt_w x
  have h : (BitVec.ofInt 32 4294967295 ^^^ BitVec.ofInt 32 (x.toNat : Int)) = ~~~x := by
    rw [e, show BitVec.ofInt 32 4294967295 = BitVec.allOnes 32 from rfl, BitVec.allOnes_xor]
  have hr : (Op.unary .xor (wv x)).run P w = .ok (.int .u32 (IntKind.u32.wrap ((BitVec.ofInt 32 4294967295 ^^^ BitVec.ofInt 32 (x.toNat : Int)).toNat : Int))) w := rfl
  rw [hr, h, wu32w]
  rfl
theorem wv_b (b : UInt8) : cvi .u32 (bv b) K = K (wv (BitVec.ofNat 32 b.toNat)) := by
  unfold wv bv
  have := b.toNat_lt
  rw [cvi_int, wu32i (by omega) (by omega), BitVec.toNat_ofNat, Nat.mod_eq_of_lt (by omega)]
theorem w_b : cvi .u8 (wv x) K = K (bv (UInt8.ofNat x.toNat)) := by
  unfold wv
  rw [cvi_int, bv_of _ (by omega), Int.toNat_natCast]
end
end Go.Fx
set_option linter.unusedVariables false
set_option linter.unusedSimpArgs false
namespace Go.Fx
def rotr (x : W32) (n : Nat) : W32 := x <<< (32 - n) ||| x >>> n
def word4 (a b c d : UInt8) : W32 := BitVec.ofNat 32 (((a.toNat * 256 + b.toNat) * 256 + c.toNat) * 256 + d.toNat)
def wd (b : List UInt8) (t : Nat) : W32 := word4 (b.getD (4 * t) 0) (b.getD (4 * t + 1) 0) (b.getD (4 * t + 2) 0) (b.getD (4 * t + 3) 0)
def bw (b : UInt8) : W32 := BitVec.ofNat 32 b.toNat
theorem or_lt {a b n : Nat} (hb : b < 2 ^ n) : a * 2 ^ n ||| b = a * 2 ^ n + b := by
  rw [Nat.mul_comm, ← Nat.two_pow_add_eq_or_of_lt hb]
theorem bw_nat (b : UInt8) : (bw b).toNat = b.toNat := by
  have := b.toNat_lt
  unfold bw
  rw [BitVec.toNat_ofNat, Nat.mod_eq_of_lt (by omega)]
theorem word4_or (a b c d : UInt8) : bw a <<< 24 ||| bw b <<< 16 ||| bw c <<< 8 ||| bw d = word4 a b c d := by
  have ha := a.toNat_lt; have hb := b.toNat_lt; have hc := c.toNat_lt; have hd := d.toNat_lt
  apply BitVec.eq_of_toNat_eq
  unfold word4
  simp only [BitVec.toNat_or, BitVec.toNat_shiftLeft, bw_nat, Nat.shiftLeft_eq, BitVec.toNat_ofNat]
  rw [Nat.mod_eq_of_lt (show a.toNat * 2 ^ 24 < 2 ^ 32 by omega), Nat.mod_eq_of_lt (show b.toNat * 2 ^ 16 < 2 ^ 32 by omega), Nat.mod_eq_of_lt (show c.toNat * 2 ^ 8 < 2 ^ 32 by omega), Nat.mod_eq_of_lt (show ((a.toNat * 256 + b.toNat) * 256 + c.toNat) * 256 + d.toNat < 2 ^ 32 by omega)]
  rw [or_lt (show b.toNat * 2 ^ 16 < 2 ^ 24 by omega)]
  rw [show a.toNat * 2 ^ 24 + b.toNat * 2 ^ 16 = (a.toNat * 256 + b.toNat) * 2 ^ 16 by omega, or_lt (show c.toNat * 2 ^ 8 < 2 ^ 16 by omega)]
  rw [show (a.toNat * 256 + b.toNat) * 2 ^ 16 + c.toNat * 2 ^ 8 = ((a.toNat * 256 + b.toNat) * 256 + c.toNat) * 2 ^ 8 by omega, or_lt (show d.toNat < 2 ^ 8 by omega)]
def sg0 (x : W32) : W32 := rotr x 7 ^^^ rotr x 18 ^^^ x >>> 3
def sg1 (y : W32) : W32 := rotr y 17 ^^^ rotr y 19 ^^^ y >>> 10
def nextW (b : List UInt8) (w : List W32) (t : Nat) : W32 := if t < 16 then wd b t else sg1 (w.getD (t - 2) 0) + w.getD (t - 7) 0 + sg0 (w.getD (t - 15) 0) + w.getD (t - 16) 0
def sch (b : List UInt8) : Nat → List W32
  | 0 => List.replicate 64 0
  | t + 1 => (sch b t).set t (nextW b (sch b t) t)
theorem sch_len (b : List UInt8) : ∀ t, (sch b t).length = 64
  | 0 => List.length_replicate
  | t + 1 => by rw [sch, List.length_set, sch_len b t]
def cubesL : List W32 := [0x428a2f98, 0x71374491, 0xb5c0fbcf, 0xe9b5dba5, 0x3956c25b, 0x59f111f1, 0x923f82a4, 0xab1c5ed5, 0xd807aa98, 0x12835b01, 0x243185be, 0x550c7dc3, 0x72be5d74, 0x80deb1fe, 0x9bdc06a7, 0xc19bf174, 0xe49b69c1, 0xefbe4786, 0x0fc19dc6, 0x240ca1cc, 0x2de92c6f, 0x4a7484aa, 0x5cb0a9dc, 0x76f988da, 0x983e5152, 0xa831c66d, 0xb00327c8, 0xbf597fc7, 0xc6e00bf3, 0xd5a79147, 0x06ca6351, 0x14292967, 0x27b70a85, 0x2e1b2138, 0x4d2c6dfc, 0x53380d13, 0x650a7354, 0x766a0abb, 0x81c2c92e, 0x92722c85, 0xa2bfe8a1, 0xa81a664b, 0xc24b8b70, 0xc76c51a3, 0xd192e819, 0xd6990624, 0xf40e3585, 0x106aa070, 0x19a4c116, 0x1e376c08, 0x2748774c, 0x34b0bcb5, 0x391c0cb3, 0x4ed8aa4a, 0x5b9cca4f, 0x682e6ff3, 0x748f82ee, 0x78a5636f, 0x84c87814, 0x8cc70208, 0x90befffa, 0xa4506ceb, 0xbef9a3f7, 0xc67178f2]
def firstL : List W32 := [0x6a09e667, 0xbb67ae85, 0x3c6ef372, 0xa54ff53a, 0x510e527f, 0x9b05688c, 0x1f83d9ab, 0x5be0cd19]
def t1M (k w e v5 v6 v7 : W32) : W32 := v7 + (rotr e 6 ^^^ rotr e 11 ^^^ rotr e 25) + ((e &&& v5) ^^^ (~~~e &&& v6)) + k + w
def t2M (a v1 v2 : W32) : W32 := (rotr a 2 ^^^ rotr a 13 ^^^ rotr a 22) + ((a &&& v1) ^^^ (a &&& v2) ^^^ (v1 &&& v2))
def rnd (k w : W32) (v : List W32) : List W32 :=
  let t1 := t1M k w (v.getD 4 0) (v.getD 5 0) (v.getD 6 0) (v.getD 7 0)
  [t1 + t2M (v.getD 0 0) (v.getD 1 0) (v.getD 2 0), v.getD 0 0, v.getD 1 0, v.getD 2 0, v.getD 3 0 + t1, v.getD 4 0, v.getD 5 0, v.getD 6 0]
def rns (b : List UInt8) (h : List W32) : Nat → List W32
  | 0 => h
  | t + 1 => rnd (cubesL.getD t 0) ((sch b 64).getD t 0) (rns b h t)
theorem rns_len (b : List UInt8) {h : List W32} (hh : h.length = 8) : ∀ t, (rns b h t).length = 8
  | 0 => hh
  | t + 1 => rfl
def mixM (h : List W32) (b : List UInt8) : List W32 := List.zipWith (· + ·) h (rns b h 64)
theorem mixM_len (b : List UInt8) {h : List W32} (hh : h.length = 8) : (mixM h b).length = 8 := by
  unfold mixM
  rw [List.length_zipWith, rns_len b hh, hh]
  rfl
def foldM (h : List W32) (l : List UInt8) : List W32 := if 64 ≤ l.length then foldM (mixM h (l.take 64)) (l.drop 64) else h
  termination_by l.length
  decreasing_by simp; omega
theorem foldM_step {h : List W32} {l : List UInt8} (hl : 64 ≤ l.length) : foldM h l = foldM (mixM h (l.take 64)) (l.drop 64) := by rw [foldM, if_pos hl]
theorem foldM_end {h : List W32} {l : List UInt8} (hl : ¬ 64 ≤ l.length) : foldM h l = h := by rw [foldM, if_neg hl]
theorem foldM_len {l : List UInt8} : ∀ {h : List W32}, h.length = 8 → (foldM h l).length = 8 := by
  induction hn : l.length using Nat.strongRecOn generalizing l with
  | ind n ih =>
    intro h hh
    by_cases hl : 64 ≤ l.length
    · rw [foldM_step hl]
      exact ih _ (by simp; omega) rfl (mixM_len _ hh)
    · rw [foldM_end hl]; exact hh
/-- Whole chunks first. -/
theorem foldM_app {a b : List UInt8} (ha : a.length % 64 = 0) : ∀ {h : List W32}, foldM h (a ++ b) = foldM (foldM h a) b := by
  induction hn : a.length using Nat.strongRecOn generalizing a with
  | ind n ih =>
    intro h
    by_cases hl : 64 ≤ a.length
    · rw [foldM_step hl, foldM_step (by rw [List.length_append]; omega), List.take_append_of_le_length hl, List.drop_append_of_le_length hl]
      exact ih _ (by simp; omega) (by simp; omega) rfl
    · have : a = [] := List.eq_nil_of_length_eq_zero (by omega)
      subst this
      rw [foldM_end hl, List.nil_append]
def zer (m : Nat) : Nat := (120 - m % 64) % 64
theorem zer_lt {m j : Nat} (h : j < zer m) : (m + j) % 64 ≠ 56 := by unfold zer at h; omega
theorem zer_eq (m : Nat) : (m + zer m) % 64 = 56 := by unfold zer; omega
theorem zer_le (m : Nat) : zer m < 64 := by unfold zer; omega
def padT (r : List UInt8) (n : Nat) : List UInt8 := r ++ [128] ++ List.replicate (zer (r.length + 1)) 0 ++ be 8 (n * 8 % 18446744073709551616)
theorem padT_len (r : List UInt8) (n : Nat) : (padT r n).length % 64 = 0 := by
  unfold padT
  simp only [List.length_append, List.length_replicate, List.length_singleton, be_length]
  have := zer_eq (r.length + 1)
  omega
theorem padT_app (a r : List UInt8) (n : Nat) (ha : a.length % 64 = 0) : padT (a ++ r) n = a ++ padT r n := by
  unfold padT
  have : zer ((a ++ r).length + 1) = zer (r.length + 1) := by unfold zer; rw [List.length_append]; omega
  rw [this]
  simp
def shaL (l : List UInt8) : List W32 := foldM firstL (padT l l.length)
theorem shaL_len (l : List UInt8) : (shaL l).length = 8 := foldM_len rfl
def wOut (x : W32) : List UInt8 := [UInt8.ofNat (x >>> 24).toNat, UInt8.ofNat (x >>> 16).toNat, UInt8.ofNat (x >>> 8).toNat, UInt8.ofNat x.toNat]
theorem wOut_len (h : List W32) : (h.flatMap wOut).length = 4 * h.length := by
  induction h with
  | nil => rfl
  | cons x h ih => rw [List.flatMap_cons, List.length_append, ih]; simp [wOut]; omega
def shaM (l : List UInt8) : Vec 32 := ⟨(shaL l).flatMap wOut, by rw [wOut_len, shaL_len]⟩
end Go.Fx
set_option linter.unusedVariables false
set_option linter.unusedSimpArgs false
namespace Go.Fx
abbrev wa (g : Nat) (l : List W32) (T : TypeId) : Asn := blk g (wvs l).toArray T
theorem wvs_get {l : List W32} {i : Nat} (hi : i < l.length) : (wvs l)[i]? = some (wv (l.getD i 0)) := by
  simp [wvs, List.getD_eq_getElem?_getD, List.getElem?_eq_getElem hi]
theorem wvs_one (l : List W32) : ∀ u ∈ wvs l, u.oneCell' = true := by
  intro u hu
  obtain ⟨x, _, rfl⟩ := List.mem_map.1 hu
  rfl
theorem shl_l (x : W32) (j : IntKind) (m : Int) (h0 : 0 ≤ m) (h1 : m ≤ 32) (K : Value → Prop) : sh .shl (wv x) (.int j m) K = K (wv (x <<< m.toNat)) := by
  obtain ⟨n, rfl⟩ := Int.eq_ofNat_of_zero_le h0
  exact wv_shl x K j (by omega)
theorem shr_l (x : W32) (j : IntKind) (m : Int) (h0 : 0 ≤ m) (h1 : m ≤ 32) (K : Value → Prop) : sh .shr (wv x) (.int j m) K = K (wv (x >>> m.toNat)) := by
  obtain ⟨n, rfl⟩ := Int.eq_ofNat_of_zero_le h0
  exact wv_shr x K j (by omega)
section
variable {w0 w : World} {g : Nat} {l : List W32} {t : TypeId} {fr : Nat × Nat} {h : Heap} {As : List Asn}
theorem ld_w (hg : h[g]? = some (.cells (wvs l).toArray t fr)) {i : Nat} (hi : i < l.length) (K : Value → Prop) : ld1 (.pointer (some ⟨g, i, none⟩)) h K = K (wv (l.getD i 0)) := by
  rw [ld1_eq hg, List.getElem?_toArray, wvs_get hi]
  exact ex_some _ K
theorem ldN_w (hg : h[g]? = some (.cells (wvs l).toArray t fr)) {n : Nat} (hn : l.length = n) (K : Value → Prop) : ldN n (.pointer (some ⟨g, 0, none⟩)) h K = K (.agg (wvs l).toArray) := by
  have hl : (wvs l).length = n := by simp [wvs, hn]
  rw [ldN_eq hg]
  have e : (wvs l).toArray.extract 0 (0 + n) = (wvs l).toArray := by
    apply Array.ext'
    simp [← hl]
  rw [e]
  exact propext ⟨fun h => h.2, fun h => ⟨by simp [hl], h⟩⟩
theorem st_w {K : World → Prop} (hs : Sep w0 w (wa g l t :: As)) {i : Nat} (hi : i < l.length) (x : W32) (h : ∀ w', Sep w0 w' (wa g (l.set i x) t :: As) → K w') : st1 (.pointer (some ⟨g, i, none⟩)) (wv x) w K := by
  refine st1_s hs (by simpa [wvs] using hi) rfl fun w' hs' => h w' ?_
  have e : (wvs l).toArray.setIfInBounds i (wv x) = (wvs (l.set i x)).toArray := by
    apply Array.ext'
    simp [wvs, List.map_set]
  rw [e] at hs'
  exact hs'
theorem stN_w {K : World → Prop} {n : Nat} {l' : List W32} (hs : Sep w0 w (wa g l t :: As)) (hl : l.length = n) (hl' : l'.length = n) (h : ∀ w', Sep w0 w' (wa g l' t :: As) → K w') :
    stN n (.pointer (some ⟨g, 0, none⟩)) (.agg (wvs l').toArray) w K := by
  refine stN_s hs (by simp [wvs, hl']) (by simp [wvs, hl]) (by simpa using wvs_one l') fun w' hs' => h w' ?_
  have e : splice (wvs l).toArray 0 (wvs l').toArray.toList = (wvs l').toArray := by
    apply Array.ext'
    simp [splice, wvs, hl', ← hl]
  rw [e] at hs'
  exact hs'
theorem ixa_l {n : Nat} (k : IntKind) (i : Int) (h0 : 0 ≤ i) (hi : i < n) (K : Value → Prop) : ixa n 1 (.pointer (some ⟨g, 0, none⟩)) (.int k i) K = K (.pointer (some ⟨g, i.toNat, none⟩)) := by
  rw [ixa_mk _ _ _ _ _ _ _ h0 hi, Nat.zero_add, Nat.mul_one]
theorem ixv_w {n i : Nat} (k : IntKind) (hl : l.length = n) (hi : i < n) (K : Value → Prop) : ixv n 1 false (.agg (wvs l).toArray) (.int k (i : Int)) K = K (wv (l.getD i 0)) := by
  refine propext ⟨fun ⟨cs, k', j, h1, h2, h3, h4, h5⟩ => ?_, fun h => ⟨_, _, _, rfl, rfl, by omega, by omega, ?_⟩⟩
  · cases h1; cases h2
    obtain ⟨v, hv, hk⟩ := (show ∃ v, _ ∧ _ from h5)
    rw [Int.toNat_natCast, Nat.mul_one, List.getElem?_toArray, wvs_get (by omega)] at hv
    cases hv
    exact hk
  · show ∃ v, _ ∧ _
    exact ⟨_, by rw [Int.toNat_natCast, Nat.mul_one, List.getElem?_toArray, wvs_get (by omega)], h⟩
theorem A_a64 (w : World) : (Instr.alloc T_a64_uint32 true (.tuple #[])).run P w = .ok (.pointer (some ⟨w.heap.size, 0, none⟩)) (w.alloc (.cells (wvs (List.replicate 64 0)).toArray T_a64_uint32)) := by kernel_rfl
theorem A_a8 (w : World) : (Instr.alloc T_a8_uint32 true (.tuple #[])).run P w = .ok (.pointer (some ⟨w.heap.size, 0, none⟩)) (w.alloc (.cells (wvs (List.replicate 8 0)).toArray T_a8_uint32)) := by kernel_rfl
theorem Rot_spec {x : W32} (m : Int) (n : Nat) (hn : n ≤ 32) (hk : IntKind.u64.wrap ((BitVec.ofInt IntKind.u64.bits (IntKind.u64.wrap m) &&& BitVec.ofInt IntKind.u64.bits 31).toNat : Int) = ((32 - n : Nat) : Int)) :
    cal P f_math_bits_RotateLeft32 [wv x, .int .i64 m] w fun r w' => r = wv (rotr x n) ∧ w = w' := by
  refine s_math_bits_RotateLeft32 fun R hR => ?_
  unfold c_math_bits_RotateLeft32
  rw [cvi_int, bi_and, hk, wv_shl x _ .u64 (by omega), bi_sub]
  have e : IntKind.u64.wrap (32 - ((32 - n : Nat) : Int)) = (n : Int) := by rw [wu64i (by omega) (by omega)]; omega
  rw [e, wv_shr x _ .u64 hn, wv_or]
  exact hR _ _ ⟨rfl, rfl⟩
end
end Go.Fx
set_option linter.unusedVariables false
set_option linter.unusedSimpArgs false
namespace Go.Fx
section
variable {w0 w : World} {b : Value} {l : List UInt8}
theorem getD_eq {l : List UInt8} {i : Nat} (h : i < l.length) : l[i] = l.getD i 0 := by simp [List.getD_eq_getElem?_getD, List.getElem?_eq_getElem h]
theorem schedule_spec (hb : RdB w.heap b l) (hl : l.length = 64) : cal P f_sha_schedule [b] w fun r w' => r = .agg (wvs (sch l 64)).toArray ∧ Fr [] w w' := by
  refine s_sha_schedule fun R hR => ?_
  unfold c_sha_schedule
  refine alloc_s (Sep.start w) (A_a64 w) fun g2 w2 hs => ?_
  refine alloc_s hs (A_a64 w2) fun g3 w3 hs => ?_
  refine ⟨fun a w' => ∃ t : Nat, a = .int .i64 t ∧ t ≤ 64 ∧ Sep w w' [wa g3 (sch l t) T_a64_uint32, wa g2 (List.replicate 64 0) T_a64_uint32], fun z _ => (64 - RowKit.intOf z).toNat, ⟨0, rfl, by omega, hs⟩, ?_⟩
  rintro _ w4 ⟨t, rfl, ht, hs4⟩ -
  simp only [fx, Nat.reduceAdd, forall_const]
  have hlen := sch_len l t
  rw [cnd_bool]
  refine ⟨fun h => ?_, fun h => ?_⟩
  · have h64 : t < 64 := by simp at h; omega
    refine ⟨fun w' => Sep w w' [wa g3 (sch l (t + 1)) T_a64_uint32, wa g2 (List.replicate 64 0) T_a64_uint32], ?_, ?_⟩
    · change cnd _ _ _
      rw [cnd_bool]
      refine ⟨fun h => ?_, fun h => ?_⟩
      · have h16 : t < 16 := by simp at h; omega
        refine drH_s hs4 fun w5 hs5 _ => ?_
        have hb5 := hs5.rdB hb
        have e0 : IntKind.i64.wrap (4 * (t : Int)) = ((4 * t : Nat) : Int) := by rw [wi64 (by omega) (by omega)]; omega
        have e1 : IntKind.i64.wrap (((4 * t : Nat) : Int) + 1) = ((4 * t + 1 : Nat) : Int) := by rw [wi64 (by omega) (by omega)]; omega
        have e2 : IntKind.i64.wrap (((4 * t : Nat) : Int) + 2) = ((4 * t + 2 : Nat) : Int) := by rw [wi64 (by omega) (by omega)]; omega
        have e3 : IntKind.i64.wrap (((4 * t : Nat) : Int) + 3) = ((4 * t + 3 : Nat) : Int) := by rw [wi64 (by omega) (by omega)]; omega
        simp only [rdS_ld1, e0, e1, e2, e3]
        refine ldxB hb5 (by omega) ?_
        rw [wv_b, shl_l _ .u64 24 (by decide) (by decide)]
        refine ldxB hb5 (by omega) ?_
        rw [wv_b, shl_l _ .u64 16 (by decide) (by decide), wv_or]
        refine ldxB hb5 (by omega) ?_
        rw [wv_b, shl_l _ .u64 8 (by decide) (by decide), wv_or]
        refine ldxB hb5 (by omega) ?_
        rw [wv_b, wv_or, ixa_w .i64 h64]
        refine efC_st1 (st_w hs5 (by omega) _ fun w6 hs6 => ?_)
        rw [sch, nextW, if_pos h16, wd, ← word4_or, ← getD_eq (by omega), ← getD_eq (by omega), ← getD_eq (by omega), ← getD_eq (by omega)]
        exact hs6
      · have h16 : ¬ t < 16 := by simp at h; omega
        refine drw_s hs4 fun w5 hs5 _ => ?_
        have e15 : IntKind.i64.wrap ((t : Int) - 15) = ((t - 15 : Nat) : Int) := by rw [wi64 (by omega) (by omega)]; omega
        have e2 : IntKind.i64.wrap ((t : Int) - 2) = ((t - 2 : Nat) : Int) := by rw [wi64 (by omega) (by omega)]; omega
        have e7 : IntKind.i64.wrap ((t : Int) - 7) = ((t - 7 : Nat) : Int) := by rw [wi64 (by omega) (by omega)]; omega
        have e16 : IntKind.i64.wrap ((t : Int) - 16) = ((t - 16 : Nat) : Int) := by rw [wi64 (by omega) (by omega)]; omega
        rw [e15, ixa_w .i64 (by omega), ld_w hs5.blk (by omega), e2, ixa_w .i64 (by omega), ld_w hs5.blk (by omega)]
        refine cal_i (Rot_spec (-7) 7 (by decide) (by decide)) ?_
        rintro _ _ ⟨rfl, rfl⟩
        refine cal_i (Rot_spec (-18) 18 (by decide) (by decide)) ?_
        rintro _ _ ⟨rfl, rfl⟩
        rw [wv_xor, shr_l _ .u64 3 (by decide) (by decide), wv_xor]
        refine cal_i (Rot_spec (-17) 17 (by decide) (by decide)) ?_
        rintro _ _ ⟨rfl, rfl⟩
        refine cal_i (Rot_spec (-19) 19 (by decide) (by decide)) ?_
        rintro _ _ ⟨rfl, rfl⟩
        rw [wv_xor, shr_l _ .u64 10 (by decide) (by decide), wv_xor]
        refine drH_s hs5 fun w6 hs6 _ => ?_
        simp only [rdS_ld1, e7, e16]
        rw [ixa_w .i64 (by omega), ld_w hs6.blk (by omega), wv_add, wv_add, ixa_w .i64 (by omega), ld_w hs6.blk (by omega), wv_add, ixa_w .i64 h64]
        refine efC_st1 (st_w hs6 (by omega) _ fun w7 hs7 => ?_)
        rw [sch, nextW, if_neg h16]
        exact hs7
    · intro w5 hs5 _
      rw [wi64 (by omega) (by omega)]
      exact ⟨⟨t + 1, by simp, by omega, hs5⟩, by simp [RowKit.intOf]; omega⟩
  · have h64 : t = 64 := by simp at h; omega
    subst h64
    rw [ldN_w hs4.blk hlen]
    refine stN_w hs4.p1 (by simp) hlen fun w5 hs5 => ?_
    rw [ldN_w hs5.blk hlen]
    exact hR _ _ ⟨rfl, hs5.fr0⟩
end
end Go.Fx
set_option linter.unusedVariables false
set_option linter.unusedSimpArgs false
namespace Go.Fx
/-- The words that are added stand in the program's variable. -/
def Cub (w : World) : Prop := ∃ t fr, w.heap[0]? = some (.cells (wvs cubesL).toArray t fr)
theorem Cub.fr {w w' : World} (h : Cub w) (hf : Fr [] w w') : Cub w' := by
  obtain ⟨t, fr, h⟩ := h
  exact ⟨t, fr, hf.blk h (by simp)⟩
section
variable {w0 w : World} {b : Value} {l : List UInt8} {h : List W32}
theorem B_a8 (a0 a1 a2 a3 a4 a5 a6 a7 : W32) (K : Value → Prop) : rdP P (Instr.build T_a8_uint32 #[(0, wv a0), (1, wv a1), (2, wv a2), (3, wv a3), (4, wv a4), (5, wv a5), (6, wv a6), (7, wv a7)]) w K = K (.agg (wvs [a0, a1, a2, a3, a4, a5, a6, a7]).toArray) := rdP_eq (by kernel_rfl) K
def hz (h v : List W32) (i : Nat) : List W32 := (List.zipWith (· + ·) h v).take i ++ h.drop i
theorem hz_zero (h v : List W32) : hz h v 0 = h := by simp [hz]
theorem hz_len {h v : List W32} (hh : h.length = 8) (hv : v.length = 8) {i : Nat} (hi : i ≤ 8) : (hz h v i).length = 8 := by simp [hz, hh, hv]; omega
theorem hz_get {h v : List W32} (hh : h.length = 8) (hv : v.length = 8) {i : Nat} (hi : i < 8) : (hz h v i).getD i 0 = h.getD i 0 := by
  have hl : ((List.zipWith (· + ·) h v).take i).length = i := by simp [hh, hv]; omega
  rw [List.getD_eq_getElem?_getD, hz, List.getElem?_append_right (by omega), hl, Nat.sub_self, List.getElem?_drop, Nat.add_zero, List.getD_eq_getElem?_getD]
theorem hz_step {h v : List W32} (hh : h.length = 8) (hv : v.length = 8) {i : Nat} (hi : i < 8) : (hz h v i).set i (h.getD i 0 + v.getD i 0) = hz h v (i + 1) := by
  have hl : ((List.zipWith (· + ·) h v).take i).length = i := by simp [hh, hv]; omega
  have hzl : (List.zipWith (· + ·) h v).length = 8 := by simp [hh, hv]
  unfold hz
  rw [List.set_append_right _ _ (by omega), hl, Nat.sub_self, List.drop_eq_getElem_cons (show i < h.length by omega), List.set_cons_zero, List.take_add_one, List.getElem?_eq_getElem (show i < (List.zipWith (· + ·) h v).length by omega)]
  simp [List.getD_eq_getElem?_getD, List.getElem?_eq_getElem (show i < h.length by omega), List.getElem?_eq_getElem (show i < v.length by omega)]
theorem hz_end {h v : List W32} (hh : h.length = 8) (hv : v.length = 8) : hz h v 8 = List.zipWith (· + ·) h v := by
  unfold hz
  rw [List.take_of_length_le (by simp [hh, hv]), List.drop_of_length_le (by omega), List.append_nil]
theorem mixed_spec (hc : Cub w) (hb : RdB w.heap b l) (hl : l.length = 64) (hh : h.length = 8) : cal P f_sha_mixed [.agg (wvs h).toArray, b] w fun r w' => r = .agg (wvs (mixM h l)).toArray ∧ Fr [] w w' := by
  refine s_sha_mixed fun R hR => ?_
  unfold c_sha_mixed
  refine bx_s (Sep.start w) fun g2 w1 hs => ?_
  simp only [Value.cells] at hs
  refine alloc_s hs (A_a8 w1) fun g4 w2 hs => ?_
  rw [ldN_w (Sep.p1 hs).blk hh]
  refine alloc_s hs (A_a8 w2) fun g5 w3 hs => ?_
  refine stN_w hs (by simp) hh fun w4 hs => ?_
  refine cal_i (schedule_spec (hs.rdB hb) hl) ?_
  rintro _ w5 ⟨rfl, hf5⟩
  replace hs := hs.old hf5
  have hsl := sch_len l 64
  refine ⟨fun a w' => ∃ t : Nat, a = .int .i64 t ∧ t ≤ 64 ∧ Sep w w' [wa g5 (rns l h t) T_a8_uint32, wa g4 (List.replicate 8 0) T_a8_uint32, wa g2 h T_a8_uint32], fun z _ => (64 - RowKit.intOf z).toNat, ⟨0, rfl, by omega, hs⟩, ?_⟩
  rintro _ w6 ⟨t, rfl, ht, hs6⟩ -
  simp only [fx, Nat.reduceAdd, forall_const]
  have hvl := rns_len l hh t
  rw [cnd_bool]
  refine ⟨fun hlt => ?_, fun hlt => ?_⟩
  · have h64 : t < 64 := by simp at hlt; omega
    rw [ixv_w .i64 hsl h64]
    refine drw_s hs6 fun w7 hs7 _ => ?_
    generalize hv : rns l h t = v at *
    have i0 : ∀ K, ixa 8 1 (.pointer (some ⟨g5, 0, none⟩)) (.int .i64 0) K = K (.pointer (some ⟨g5, 0, none⟩)) := fun K => ixa_l .i64 0 (by decide) (by decide) K
    have i1 : ∀ K, ixa 8 1 (.pointer (some ⟨g5, 0, none⟩)) (.int .i64 1) K = K (.pointer (some ⟨g5, 1, none⟩)) := fun K => ixa_l .i64 1 (by decide) (by decide) K
    have i2 : ∀ K, ixa 8 1 (.pointer (some ⟨g5, 0, none⟩)) (.int .i64 2) K = K (.pointer (some ⟨g5, 2, none⟩)) := fun K => ixa_l .i64 2 (by decide) (by decide) K
    have i3 : ∀ K, ixa 8 1 (.pointer (some ⟨g5, 0, none⟩)) (.int .i64 3) K = K (.pointer (some ⟨g5, 3, none⟩)) := fun K => ixa_l .i64 3 (by decide) (by decide) K
    have i4 : ∀ K, ixa 8 1 (.pointer (some ⟨g5, 0, none⟩)) (.int .i64 4) K = K (.pointer (some ⟨g5, 4, none⟩)) := fun K => ixa_l .i64 4 (by decide) (by decide) K
    have i5 : ∀ K, ixa 8 1 (.pointer (some ⟨g5, 0, none⟩)) (.int .i64 5) K = K (.pointer (some ⟨g5, 5, none⟩)) := fun K => ixa_l .i64 5 (by decide) (by decide) K
    have i6 : ∀ K, ixa 8 1 (.pointer (some ⟨g5, 0, none⟩)) (.int .i64 6) K = K (.pointer (some ⟨g5, 6, none⟩)) := fun K => ixa_l .i64 6 (by decide) (by decide) K
    have i7 : ∀ K, ixa 8 1 (.pointer (some ⟨g5, 0, none⟩)) (.int .i64 7) K = K (.pointer (some ⟨g5, 7, none⟩)) := fun K => ixa_l .i64 7 (by decide) (by decide) K
    rw [i0, ld_w hs7.blk (by omega), i4, ld_w hs7.blk (by omega)]
    refine cal_i (Rot_spec (-6) 6 (by decide) (by decide)) ?_
    rintro _ _ ⟨rfl, rfl⟩
    refine cal_i (Rot_spec (-11) 11 (by decide) (by decide)) ?_
    rintro _ _ ⟨rfl, rfl⟩
    rw [wv_xor]
    refine cal_i (Rot_spec (-25) 25 (by decide) (by decide)) ?_
    rintro _ _ ⟨rfl, rfl⟩
    rw [wv_xor]
    refine drw_s hs7 fun w8 hs8 _ => ?_
    obtain ⟨tc, fc, hcub⟩ := hc.fr hs8.fr0
    rw [i7, ld_w hs8.blk (by omega), wv_add, i5, ld_w hs8.blk (by omega), wv_and, wv_not, i6, ld_w hs8.blk (by omega), wv_and, wv_xor, wv_add, ixa_w .i64 h64, ld_w hcub (by show t < 64; omega), wv_add, wv_add]
    refine cal_i (Rot_spec (-2) 2 (by decide) (by decide)) ?_
    rintro _ _ ⟨rfl, rfl⟩
    refine cal_i (Rot_spec (-13) 13 (by decide) (by decide)) ?_
    rintro _ _ ⟨rfl, rfl⟩
    rw [wv_xor]
    refine cal_i (Rot_spec (-22) 22 (by decide) (by decide)) ?_
    rintro _ _ ⟨rfl, rfl⟩
    have hld : ∀ i, i < 8 → ∀ K, ld1 (.pointer (some ⟨g5, i, none⟩)) w8.heap K = K (wv (v.getD i 0)) := fun i hi K => ld_w hs8.blk (by omega) K
    rw [wv_xor, i1, hld 1 (by decide), wv_and, i2, hld 2 (by decide), wv_and, wv_xor, i1, hld 1 (by decide), i2, hld 2 (by decide), wv_and, wv_xor, wv_add, wv_add, i1, hld 1 (by decide), i2, hld 2 (by decide), i3, hld 3 (by decide), wv_add, i5, hld 5 (by decide), i6, hld 6 (by decide), B_a8]
    refine stN_w hs8 (by omega) rfl fun w9 hs9 => ?_
    rw [wi64 (by omega) (by omega)]
    refine ⟨⟨t + 1, by simp, by omega, ?_⟩, by simp [RowKit.intOf]; omega⟩
    rw [rns, hv]
    exact hs9
  · have h64 : t = 64 := by simp at hlt; omega
    subst h64
    generalize hv : rns l h 64 = v at *
    refine ⟨fun a w' => ∃ i : Nat, a = .int .i64 i ∧ i ≤ 8 ∧ Sep w w' [wa g2 (hz h v i) T_a8_uint32, wa g5 v T_a8_uint32, wa g4 (List.replicate 8 0) T_a8_uint32], fun z _ => (8 - RowKit.intOf z).toNat, ⟨0, rfl, by omega, by rw [hz_zero]; exact hs6.p2⟩, ?_⟩
    rintro _ w7 ⟨i, rfl, hi, hs7⟩ -
    simp only [fx, Nat.reduceAdd, forall_const]
    have hzl := hz_len hh hvl hi
    rw [cnd_bool]
    refine ⟨fun hlt => ?_, fun hlt => ?_⟩
    · have h8 : i < 8 := by simp at hlt; omega
      refine drH_s hs7 fun w8 hs8 _ => ?_
      simp only [rdS_ld1]
      rw [ixa_w .i64 h8, ld_w hs8.blk (by omega), ixa_w .i64 h8, ld_w (Sep.p1 hs8).blk (by omega), wv_add, ixa_w .i64 h8, hz_get hh hvl h8]
      refine efC_st1 (st_w hs8 (by omega) _ fun w9 hs9 => ?_)
      rw [wi64 (by omega) (by omega)]
      rw [hz_step hh hvl h8] at hs9
      exact ⟨⟨i + 1, by simp, by omega, hs9⟩, by simp [RowKit.intOf]; omega⟩
    · have h8 : i = 8 := by simp at hlt; omega
      subst h8
      rw [ldN_w hs7.blk hzl]
      refine stN_w hs7.p2 (by simp) hzl fun w8 hs8 => ?_
      rw [ldN_w hs8.blk hzl]
      refine hR _ _ ⟨?_, hs8.fr0⟩
      rw [hz_end hh hvl, mixM, hv]
end
end Go.Fx
set_option linter.unusedVariables false
set_option linter.unusedSimpArgs false
namespace Go.Fx
section
variable {w0 w : World} {b s : Value} {l m : List UInt8} {h : List W32} {As : List Asn}
theorem be_get (v : Nat) : ∀ n i, i < n → (be n v)[i]? = some (UInt8.ofNat (v / 256 ^ (n - 1 - i)))
  | n + 1, 0, _ => by rw [be_cons]; simp
  | n + 1, i + 1, h => by
    rw [be_cons, List.getElem?_cons_succ, be_get v n i (by omega)]
    congr 4
    omega
theorem be_take (v n i : Nat) (hi : i < n) : (be n v).take (i + 1) = (be n v).take i ++ [UInt8.ofNat (v / 256 ^ (n - 1 - i))] := by
  rw [List.take_add_one, be_get v n i hi]
  rfl
theorem shr56 (v i : Nat) (hi : i < 8) (K : Value → Prop) : sh .shr (.int .u64 (v : Int)) (.int .u64 ((56 - 8 * i : Nat) : Int)) K = K (.int .u64 ((v / 256 ^ (7 - i) : Nat) : Int)) := by
  rw [sh_shr _ _ _ _ _ (by omega)]
  have h1 : min (((56 - 8 * i : Nat) : Int)).toNat IntKind.u64.bits = 8 * (7 - i) := by show min _ 64 = _; omega
  have h2 : (2 : Int) ^ (8 * (7 - i)) = ((256 ^ (7 - i) : Nat) : Int) := by
    rw [Int.pow_mul]
    simp
  rw [h1, h2, Int.ofNat_fdiv]
end
end Go.Fx
set_option linter.unusedVariables false
set_option linter.unusedSimpArgs false
namespace Go.Fx
theorem wOut_get {h : List W32} {i : Nat} (hi : i < 4 * h.length) : (h.flatMap wOut)[i]? = some (UInt8.ofNat ((h.getD (i / 4) 0) >>> (24 - 8 * (i % 4))).toNat) := by
  induction h generalizing i with
  | nil => simp at hi
  | cons x h ih =>
    rw [List.flatMap_cons]
    by_cases h4 : i < 4
    · rw [List.getElem?_append_left (by simp [wOut]; omega)]
      have : i = 0 ∨ i = 1 ∨ i = 2 ∨ i = 3 := by omega
      rcases this with rfl | rfl | rfl | rfl <;> simp [wOut]
    · have hl : (wOut x).length = 4 := rfl
      rw [List.getElem?_append_right (by omega), hl, ih (by simp at hi; omega)]
      have e1 : i / 4 = (i - 4) / 4 + 1 := by omega
      have e2 : (i - 4) % 4 = i % 4 := by omega
      rw [e1, e2]
      rfl
section
variable {w0 w : World} {b : Value} {l : List UInt8} {As : List Asn}
theorem B_first (K : Value → Prop) : rdP P (Instr.build T_a8_uint32 #[(0, (Value.int IntKind.u32 1779033703)), (1, (Value.int IntKind.u32 3144134277)), (2, (Value.int IntKind.u32 1013904242)), (3, (Value.int IntKind.u32 2773480762)), (4, (Value.int IntKind.u32 1359893119)), (5, (Value.int IntKind.u32 2600822924)), (6, (Value.int IntKind.u32 528734635)), (7, (Value.int IntKind.u32 1541459225))]) w K = K (.agg (wvs firstL).toArray) := rdP_eq (by kernel_rfl) K
end
end Go.Fx
set_option linter.unusedVariables false
set_option linter.unusedSimpArgs false
namespace Go.Fx
/-- 'append(nil, make([]byte, n)...)'. -/
theorem appMade {P : Program} {t tx ty E : Nat} {w0 w : World} {As : List Asn} {n : Nat} {K : Value → World → Prop} (hT : SlT P t E 1 1) (hx : P.underlying tx = some (.int .i64)) (hs : Sep w0 w As) (h0 : 0 < n) (hn : n ≤ 1000000)
    (h : ∀ g c w', Sep w0 w' (ownB (.slice (some ⟨g, 0, none⟩) 0 c) [] :: As) → K (.slice (some ⟨g, 0, none⟩) n c) w') : efP P (Builtin.append_ #[t, tx] ty #[.slice none 0 0, .int .i64 n]) w K := by
  obtain ⟨i, z, hi, hsz, hby, hz, hzc⟩ := slT_info hT
  have hund := hT.und
  have hzs : z.cells.size = 1 := by rw [hzc]; exact hT.zcs
  have h48 : ¬ (281474976710656 < Builtin.nextslicecap n 0 * i.bytes) := by
    rw [hby]; have := growslice_fits (old := 0) (need := n) (bytes := 1) h0 (by omega); omega
  have hold : Cel w.drew.heap (.slice none 0 0) 1 0 [] := ⟨none, 0, rfl, rfl, .inl rfl⟩
  have holdr := hold.load (P := P)
  have hge := grownCap_ge w n 0 E
  refine ⟨.slice (some ⟨w.heap.size, 0, none⟩) n (grownCap w n 0 E), w.drew.alloc (.cells (Builtin.zeroCells z.cells n ++ Builtin.zeroCells z.cells (grownCap w n 0 E - n)) E), ?_, h _ _ _ (hs.new (((Fr.refl [] w).drew _).trans (fr_alloc _ _) (by simp) (by simp)) (B := ownB _ _) (F' := [w.heap.size]) ⟨rfl, .inr ⟨w.heap.size, 0, _, _, E, rfl, Nat.zero_le _, alloc_new w.drew _, ?_, by simp [bvs], rfl⟩⟩ (by simp))⟩
  · have hw : IntKind.i64.wrap (n : Int) = n := wi64 (by omega) (by omega)
    simp only [Builtin.append_, Sem.run_bind, Sem.run_pure, List.getElem?_toArray, List.getElem?_cons_zero, List.getElem?_cons_succ, run_underlying hund, Result.andThen_ok, run_sizeOf hT.siz, run_underlying hx]
    have ha : Sem.run P (asIntOf (.int .i64 (n : Int))) w = .ok (.i64, (n : Int)) w := rfl
    have h1 : ¬ ((n : Int) < 0) := by omega
    have h2 : ¬ (281474976710656 < (n : Int)) := by omega
    have h3 : ¬ n = 0 := by omega
    have h4 : ¬ (9223372036854775807 < (n : Int)) := by omega
    have h48' : ¬ (281474976710656 < Builtin.nextslicecap n 0) := by rw [hby, Nat.mul_one] at h48; exact h48
    simp [asInt, ha, hw, typeInfo, hi, hby, h1, h2, h3, h4, h48', zeroValue, hz, Question.forced, holdr, newRow, grownCap]
  · simp only [Array.size_append, size_zeroCells, hzs]
    omega
theorem cap_sl {P : Program} {t t' e : TypeId} {w : World} {a : Option Addr} {n c : Nat} (hu : P.underlying t = some (.slice e)) (K : Value → Prop) : rdP P (Builtin.cap_ #[t] t' #[.slice a n c]) w K = K (.int .i64 c) := by
  refine rdP_eq ?_ K
  simp [Builtin.cap_, run_underlying hu, goInt]
section
variable {w0 w : World} {b s : Value} {l m : List UInt8} {As : List Asn}
theorem Grow_spec (n : Nat) (hn : n ≤ 1000000) : cal P f_slices_Grow_byte_byte [.slice none 0 0, .int .i64 n] w fun r w' => Sep w w' [ownB r []] := by
  refine s_slices_Grow_byte_byte fun R hR => ?_
  unfold c_slices_Grow_byte_byte
  have e0 : decide ((n : Int) < 0) = false := by simp
  simp only [fx, Nat.reduceAdd, forall_const, e0, cap_sl U_sl_uint8, Int.natCast_zero, Int.sub_zero]
  rw [wi64 (x := 0) (by decide) (by decide), Int.sub_zero, wi64 (by omega) (by omega), cnd_bool]
  refine ⟨fun h => ?_, fun h => ?_⟩
  · have h0 : 0 < n := by simp at h; omega
    rw [show (Value.int .i64 0) = .int .i64 ((0 : Nat) : Int) from rfl, slc_to (Nat.le_refl 0)]
    refine appMade S_sl_uint8 U_int (Sep.start w) h0 hn fun g c w1 hs => ?_
    rw [slc_to (Nat.zero_le _)]
    exact hR _ _ hs
  · exact hR _ _ (Sep.start w).nil
end
end Go.Fx
set_option linter.unusedVariables false
set_option linter.unusedSimpArgs false
namespace Go.Fx
section
variable {w0 w : World} {v s0 s1 : Value} {l m : List UInt8} {As : List Asn}
theorem Concat_spec (hv : Cel w.heap v 1 2 [s0, s1]) (h0 : RdB w.heap s0 l) (h1 : RdB w.heap s1 m) (hl : l.length + m.length ≤ 1000000) : cal P f_slices_Concat_byte_byte [v] w fun r w' => Sep w w' [ownB r (l ++ m)] := by
  refine s_slices_Concat_byte_byte fun R hR => ?_
  unfold c_slices_Concat_byte_byte
  obtain ⟨a, c, hva, _⟩ := id hv
  have hlen : ∀ K, lenS v K = K (.int .i64 ((2 : Nat) : Int)) := fun K => by rw [hva, lenS_mk]
  obtain ⟨f, hf⟩ : ∃ f : Nat → Nat, f = fun i => if i = 0 then 0 else if i = 1 then l.length else l.length + m.length := ⟨_, rfl⟩
  have hf0 : f 0 = 0 := by rw [hf]; rfl
  have hf1 : f 1 = l.length := by rw [hf]; rfl
  have hf2 : f 2 = l.length + m.length := by rw [hf]; rfl
  simp only [hlen]
  refine ⟨fun x y w' => ∃ i : Nat, x = .int .i64 (f i : Nat) ∧ y = .int .i64 i ∧ i ≤ 2 ∧ w' = w, fun _ y _ => (2 - RowKit.intOf y).toNat, ⟨0, by rw [hf0]; rfl, rfl, by omega, rfl⟩, ?_⟩
  rintro _ _ w1 ⟨i, rfl, rfl, hi, rfl⟩ -
  simp only [fx, Nat.reduceAdd, forall_const]
  rw [cnd_bool]
  refine ⟨fun h => ?_, fun h => ?_⟩
  · have hlt : i = 0 ∨ i = 1 := by simp at h; omega
    refine ⟨fun t w' => t = .int .i64 (f (i + 1) : Nat) ∧ w' = w1, ?_, ?_⟩
    · rcases hlt with rfl | rfl
      · refine ldx hv (j := 0) (u := s0) rfl ?_
        rw [h0.len]
        simp only [fx, Nat.reduceAdd, forall_const]
        rw [hf0, hf1, wi64 (by omega) (by omega), decide_eq_false (by omega), cnd_false]
        exact ⟨by simp, trivial⟩
      · refine ldx hv (j := 1) (u := s1) rfl ?_
        rw [h1.len]
        simp only [fx, Nat.reduceAdd, forall_const]
        rw [hf1, hf2, wi64 (by omega) (by omega), decide_eq_false (by omega), cnd_false]
        exact ⟨by simp, trivial⟩
    · rintro _ _ ⟨rfl, rfl⟩ -
      rw [wi64 (by omega) (by omega)]
      exact ⟨⟨i + 1, rfl, by simp, by omega, rfl⟩, by simp [RowKit.intOf]; omega⟩
  · have h2 : i = 2 := by simp at h; omega
    subst h2
    rw [hf2]
    refine cal_i (Grow_spec (l.length + m.length) hl) ?_
    rintro v2 w2 hs2
    obtain ⟨g, hg⟩ : ∃ g : Nat → List UInt8, g = fun i => if i = 0 then [] else if i = 1 then l else l ++ m := ⟨_, rfl⟩
    have hg0 : g 0 = [] := by rw [hg]; rfl
    have hg1 : g 1 = l := by rw [hg]; rfl
    have hg2 : g 2 = l ++ m := by rw [hg]; rfl
    refine ⟨fun x y w' => ∃ i : Nat, y = .int .i64 i ∧ i ≤ 2 ∧ Sep w1 w' [ownB x (g i)], fun _ y _ => (2 - RowKit.intOf y).toNat, ⟨0, rfl, by omega, by rw [hg0]; exact hs2⟩, ?_⟩
    rintro v3 _ w3 ⟨i, rfl, hi, hs3⟩ -
    simp only [fx, Nat.reduceAdd, forall_const]
    rw [cnd_bool]
    refine ⟨fun h => ?_, fun h => ?_⟩
    · have hlt : i = 0 ∨ i = 1 := by simp at h; omega
      have hv3 : Cel w3.heap v 1 2 [s0, s1] := hv.fr hs3.fr0 (off_nil _)
      rcases hlt with rfl | rfl
      · refine ldx hv3 (j := 0) (u := s0) rfl ?_
        rw [hg0] at hs3
        refine appB_s S_sl_uint8 U_sl_uint8 (by simp) hs3 (hs3.rdB h0) (by simp; omega) fun v4 w4 hs4 => ?_
        rw [wi64 (by omega) (by omega)]
        exact ⟨⟨1, by simp, by omega, by rw [hg1]; exact hs4⟩, by simp [RowKit.intOf]⟩
      · refine ldx hv3 (j := 1) (u := s1) rfl ?_
        rw [hg1] at hs3
        refine appB_s S_sl_uint8 U_sl_uint8 (by simp) hs3 (hs3.rdB h1) (by omega) fun v4 w4 hs4 => ?_
        rw [wi64 (by omega) (by omega)]
        exact ⟨⟨2, by simp, by omega, by rw [hg2]; exact hs4⟩, by simp [RowKit.intOf]⟩
    · have h2 : i = 2 := by simp at h; omega
      subst h2
      rw [hg2] at hs3
      exact hR _ _ hs3
end
end Go.Fx
set_option linter.unusedVariables false
set_option linter.unusedSimpArgs false
namespace Go.Fx
abbrev VW (n : Nat) := {l : List W32 // l.length = n}
def rW (n : Nat) : Rdr (VW n) where
  size := n
  cells l := wvs l.1
  ok _ _ := True
  len l := by simp [wvs, l.2]
  one _ := wvs_one _
  fr h _ := h
abbrev Q_St := Rdr.pair (rW 8) (Rdr.pair qv (Rdr.pair (rInt .i64) rBool))
abbrev st (g : Nat) (h : VW 8) (s : Value) (n : Int) : Asn := blk g (Rdr.cells Q_St (h, s, n, true)).toArray T_sha_State
def first8 : VW 8 := ⟨firstL, rfl⟩
section
variable {w0 w : World} {v b s : Value} {l r : List UInt8} {As : List Asn} {g : Nat} {h : VW 8} {n : Int}
theorem first_spec : cal P f_sha_first [] w fun r w' => r = .agg (wvs firstL).toArray ∧ Fr [] w w' := by
  refine s_sha_first fun R hR => ?_
  unfold c_sha_first
  refine alloc_s (Sep.start w) (A_a8 w) fun g w1 hs => ?_
  rw [B_first]
  refine stN_w hs (by simp) rfl fun w2 hs => ?_
  rw [ldN_w (n := 8) hs.blk rfl]
  exact hR _ _ ⟨rfl, hs.fr0⟩
theorem B_St (K : Value → Prop) : rdP P (Instr.build T_sha_State #[(0, .agg (wvs firstL).toArray), (3, .bool true)]) w K = K (.agg (Rdr.cells Q_St (first8, .slice none 0 0, 0, true)).toArray) := rdP_eq (by kernel_rfl) K
theorem New_spec : cal P f_sha_New [] w fun r w' => ∃ g, r = .pointer (some ⟨g, 0, none⟩) ∧ Sep w w' [st g first8 (.slice none 0 0) 0] := by
  refine s_sha_New fun R hR => ?_
  unfold c_sha_New
  refine cal_i first_spec ?_
  rintro _ w1 ⟨rfl, hf1⟩
  rw [B_St]
  refine bx_s ((Sep.start w).old hf1) fun g w2 hs => ?_
  exact hR _ _ ⟨g, rfl, hs⟩
theorem none_spec (hs : Sep w0 w (st g h s n :: As)) : cal P f_sha_State_none [.pointer (some ⟨g, 0, none⟩)] w fun r w' => r = .bool false ∧ w = w' := by
  refine s_sha_State_none fun R hR => ?_
  unfold c_sha_State_none
  simp only [fx, Nat.reduceAdd, forall_const]
  have hb := Fld.ldB (r := Q_St) (Fld.snd (Fld.snd (Fld.snd Fld.self))) hs.blk
  refine jn1_dup ?_
  rw [show (Value.pointer (some ⟨g, 10, none⟩)) = .pointer (some ⟨g, 8 + (1 + (1 + 0)), none⟩) from rfl]
  refine (hb _).mpr ?_
  simp only [fx, Nat.reduceAdd, forall_const]
  exact hR _ _ ⟨rfl, rfl⟩
/-- A part of an owned slice, to its end. -/
def Rest (v : Value) (l : List UInt8) (u : Value) (m : List UInt8) : Prop := ∃ a n c, u = .slice a n c ∧ n = m.length ∧ n ≤ c ∧ ∀ z : World, RdB z.heap v l → RdB z.heap u m
theorem Rest.start {a : Option Addr} {c : Nat} (hc : l.length ≤ c) : Rest (.slice a l.length c) l (.slice a l.length c) l := ⟨a, _, c, rfl, rfl, hc, fun _ h => h⟩
theorem Rest.to {u : Value} {m : List UInt8} (hr : Rest v l u m) (h64 : 64 ≤ m.length) (K : Value → Prop) (h : ∀ x, (∀ z : World, RdB z.heap v l → RdB z.heap x (m.take 64)) → K x) : slc 1 u none (some (.int .i64 64)) K := by
  obtain ⟨a, n, c, rfl, rfl, hc, hx⟩ := hr
  have := slc_to (size := 1) (n := m.length) (a := a) (k := .i64) (show 64 ≤ c by omega) K
  rw [show (Value.int .i64 64) = .int .i64 ((64 : Nat) : Int) from rfl, this]
  exact h _ fun z hz => (hx z hz).take h64 c
theorem Rest.from {u : Value} {m : List UInt8} (hr : Rest v l u m) (h64 : 64 ≤ m.length) (K : Value → Prop) (h : ∀ x, Rest v l x (m.drop 64) → K x) : slc 1 u (some (.int .i64 64)) none K := by
  obtain ⟨a, n, c, rfl, rfl, hc, hx⟩ := hr
  have := slc_from (size := 1) (c := c) (a := a) (k := .i64) h64 K
  rw [show (Value.int .i64 64) = .int .i64 ((64 : Nat) : Int) from rfl, this]
  exact h _ ⟨_, _, _, rfl, by simp, by omega, fun z hz => (hx z hz).drop h64 hc (c - 64)⟩
theorem Rest.len {u : Value} {m : List UInt8} (hr : Rest v l u m) (K : Value → Prop) : lenS u K = K (.int .i64 m.length) := by
  obtain ⟨a, n, c, rfl, rfl, hc, hx⟩ := hr
  exact lenS_mk a _ c K
end
end Go.Fx
set_option linter.unusedVariables false
set_option linter.unusedSimpArgs false
namespace Go.Fx
theorem foldM_one {h : List W32} {m : List UInt8} (hm : m.length = 64) : foldM h m = mixM h m := by
  rw [foldM_step (by omega), List.take_of_length_le (by omega), List.drop_of_length_le (by omega), foldM_end (by simp)]
section
variable {w0 w : World} {v b s : Value} {l r : List UInt8} {As : List Asn} {g : Nat} {h : VW 8} {n : Int}
theorem ldS_h {hp : Heap} {t : TypeId} {fr : Nat × Nat} {a} (hg : hp[g]? = some (.cells (Rdr.cells Q_St a).toArray t fr)) (K : Value → Prop) : ldN 8 (.pointer (some ⟨g, 0, none⟩)) hp K = K (.agg (wvs a.1.1).toArray) := Fld.ldN (r := Q_St) (s := rW 8) (Fld.fst Fld.self) hg K
theorem ldS_s {hp : Heap} {t : TypeId} {fr : Nat × Nat} {a} (hg : hp[g]? = some (.cells (Rdr.cells Q_St a).toArray t fr)) (K : Value → Prop) : ld1 (.pointer (some ⟨g, 8, none⟩)) hp K = K a.2.1 := Fld.ld1 (r := Q_St) (Fld.snd (Fld.fst Fld.self)) hg K
theorem ldS_n {hp : Heap} {t : TypeId} {fr : Nat × Nat} {a} (hg : hp[g]? = some (.cells (Rdr.cells Q_St a).toArray t fr)) (K : Value → Prop) : ld1 (.pointer (some ⟨g, 9, none⟩)) hp K = K (.int .i64 a.2.2.1) := Fld.ldI (r := Q_St) (Fld.snd (Fld.snd (Fld.fst Fld.self))) hg K
theorem stS_h {K : World → Prop} (hs : Sep w0 w (st g h s n :: As)) {l' : List W32} (hl : l'.length = 8) (hk : ∀ w', Sep w0 w' (st g ⟨l', hl⟩ s n :: As) → K w') : stN 8 (.pointer (some ⟨g, 0, none⟩)) (.agg (wvs l').toArray) w K :=
  Fld.stN (r := Q_St) (s := rW 8) (Fld.fst Fld.self) (b := ⟨l', hl⟩) hs (wvs_one _) hk
theorem stS_s {K : World → Prop} (hs : Sep w0 w (st g h s n :: As)) {s' : Value} (h1 : s'.oneCell' = true) (hk : ∀ w', Sep w0 w' (st g h s' n :: As) → K w') : st1 (.pointer (some ⟨g, 8, none⟩)) s' w K :=
  Fld.stV (r := Q_St) (s := qv) (Fld.snd (Fld.fst Fld.self)) rfl hs h1 hk
theorem stS_n {K : World → Prop} (hs : Sep w0 w (st g h s n :: As)) {n' : Int} (hk : ∀ w', Sep w0 w' (st g h s n' :: As) → K w') : st1 (.pointer (some ⟨g, 9, none⟩)) (.int .i64 n') w K :=
  Fld.stV (r := Q_St) (s := rInt .i64) (Fld.snd (Fld.snd (Fld.fst Fld.self))) rfl hs rfl hk
theorem Write_spec (hc : Cub w0) (hs : Sep w0 w (st g first8 (.slice none 0 0) 0 :: As)) (hv : Cel w0.heap v 1 1 [b] ∨ ∃ Bs, As = own v 1 1 [b] :: Bs) (hb : RdB w0.heap b l) (hl : l.length ≤ 100000) :
    cal P f_sha_State_Write [.pointer (some ⟨g, 0, none⟩), v] w fun _ w' => ∃ (a r : List UInt8) (h : VW 8) (s : Value), l = a ++ r ∧ a.length % 64 = 0 ∧ r.length < 64 ∧ h.1 = foldM firstL a ∧ Sep w0 w' (st g h s l.length :: ownB s r :: As) := by
  refine s_sha_State_Write fun R hR => ?_
  unfold c_sha_State_Write
  refine cal_i (none_spec hs) ?_
  rintro _ _ ⟨rfl, rfl⟩
  have hcel : ∀ {z : World} {x : Asn}, Sep w0 z (x :: As) → Cel z.heap v 1 1 [b] := fun {z x} hz => by
    rcases hv with hv | ⟨Bs, rfl⟩
    · exact hv.fr hz.fr0 (off_nil _)
    · exact Sep.cel hz.p1
  obtain ⟨a, c, hva, _⟩ := id (hcel hs)
  have hlen : ∀ K, lenS v K = K (.int .i64 ((1 : Nat) : Int)) := fun K => by rw [hva, lenS_mk]
  simp only [fx, Nat.reduceAdd, forall_const, hlen]
  refine ⟨fun x w' => ∃ i : Nat, x = .int .i64 i ∧ i ≤ 1 ∧ (i = 0 → Sep w0 w' (st g first8 (.slice none 0 0) 0 :: As)) ∧ (i = 1 → ∃ (a r : List UInt8) (h : VW 8) (s : Value), l = a ++ r ∧ a.length % 64 = 0 ∧ r.length < 64 ∧ h.1 = foldM firstL a ∧ Sep w0 w' (st g h s l.length :: ownB s r :: As)),
    fun z _ => (1 - RowKit.intOf z).toNat, ⟨0, rfl, by omega, fun _ => hs, fun h => by cases h⟩, ?_⟩
  rintro _ w1 ⟨i, rfl, hi, hi0, hi1⟩ -
  simp only [fx, Nat.reduceAdd, forall_const]
  rw [cnd_bool]
  refine ⟨fun hlt => ?_, fun hlt => ?_⟩
  · have h0 : i = 0 := by simp at hlt; omega
    subst h0
    have hs1 := hi0 rfl
    refine ldx (hcel hs1) (j := 0) (u := b) rfl ?_
    rw [ldS_n hs1.blk, (hs1.rdB hb).len]
    simp only [fx, Nat.reduceAdd, forall_const]
    rw [wi64 (by omega) (by omega)]
    refine stS_n hs1 fun w2 hs2 => ?_
    simp only [fx, Nat.reduceAdd, forall_const, ldS_s hs2.blk]
    have hbs : ∀ (w : World), (Instr.buildSlice T_sl_sl_uint8 2 #[(0, .slice none 0 0), (1, b)]).run P w = .ok (.slice (some ⟨w.heap.size, 0, none⟩) 2 2) (w.alloc (.cells ([.slice none 0 0, b] : List Value).toArray T_sl_uint8)) := by
      obtain ⟨a, c, rfl, _⟩ := hb
      intro w
      kernel_rfl
    refine build_s (cs := [.slice none 0 0, b]) (size := 1) hs2 rfl (hbs _) fun g3 w3 hs3 => ?_
    refine cal_i (Concat_spec (l := []) (m := l) (Sep.cel hs3) ⟨none, 0, rfl, rfl, .inl rfl⟩ (hs3.rdB hb) (by simp; omega)) ?_
    rintro v4 w4 hs4
    rw [List.nil_append] at hs4
    replace hs4 := (hs3.join hs4).d1.p1
    obtain ⟨a4, c4, rfl, hc4⟩ := Sep.form hs4.p1
    refine ⟨fun u w' => ∃ (k : Nat) (h : VW 8), k ≤ l.length ∧ k % 64 = 0 ∧ h.1 = foldM firstL (l.take k) ∧ Rest (.slice a4 l.length c4) l u (l.drop k) ∧ Sep w0 w' (st g h (.slice none 0 0) l.length :: ownB (.slice a4 l.length c4) l :: As), fun u _ => match u with
      | .slice _ n _ => n
      | _ => 0, ⟨0, first8, by omega, rfl, by rw [List.take_zero, foldM_end (by simp)]; rfl, Rest.start hc4, by simpa using hs4⟩, ?_⟩
    rintro u w5 ⟨k, h5, hk, hkm, hh5, hrest, hs5⟩ -
    simp only [hrest.len, List.length_drop]
    rw [bi_geq, cnd_bool]
    refine ⟨fun h => ?_, fun h => ?_⟩
    · have h64 : 64 ≤ (l.drop k).length := by simp at h ⊢; omega
      refine drH_s hs5 fun w6 hs6 _ => ?_
      simp only [fx, Nat.reduceAdd, forall_const, rdS_ldN, ldS_h hs6.blk]
      refine hrest.to h64 _ fun x hx => ?_
      refine efC_cal (cal_i (mixed_spec (hc.fr hs6.fr0) (hx _ (Sep.rd hs6.p1)) (by rw [List.length_take]; omega) h5.2) ?_)
      rintro _ w7 ⟨rfl, hf7⟩
      have hs7 := hs6.old hf7
      refine efC_stN (stS_h hs7 (mixM_len _ h5.2) fun w8 hs8 => ?_)
      refine hrest.from h64 _ fun u' hu' => ?_
      rw [List.drop_drop] at hu'
      have hll : k + 64 ≤ l.length := by simp at h64; omega
      refine ⟨⟨k + 64, _, hll, by omega, ?_, hu', hs8⟩, ?_⟩
      · show mixM h5.1 _ = _
        rw [hh5, List.take_add, foldM_app (by rw [List.length_take]; omega), foldM_one (m := (l.drop k).take 64) (by rw [List.length_take]; omega)]
      · obtain ⟨_, n1, _, rfl, e1, _⟩ := hrest
        obtain ⟨_, n2, _, rfl, e2, _⟩ := hu'
        simp only [List.length_drop] at e1 e2
        simp only []
        omega
    · have h64 : (l.drop k).length < 64 := by simp at h ⊢; omega
      obtain ⟨_, _, _, _, _, _, hx⟩ := id hrest
      refine cal_i (bClone_spec (hx _ (Sep.rd hs5.p1)) (by rw [List.length_drop]; omega)) ?_
      rintro v6 w6 hs6
      replace hs6 := (hs5.join hs6).p1
      refine stS_s hs6 (Sep.one hs6.p1) fun w7 hs7 => ?_
      rw [wi64 (by omega) (by omega)]
      refine ⟨⟨1, by simp, by omega, fun h => (by cases h), fun _ => ⟨l.take k, l.drop k, h5, v6, (List.take_append_drop k l).symm, by rw [List.length_take]; omega, h64, hh5, hs7.d2⟩⟩, by simp [RowKit.intOf]⟩
  · have h1 : i = 1 := by simp at hlt; omega
    exact hR _ _ (hi1 h1)
end
end Go.Fx
set_option linter.unusedVariables false
set_option linter.unusedSimpArgs false
namespace Go.Fx
section
variable {w0 w : World} {v b s : Value} {l r : List UInt8} {As : List Asn} {g : Nat} {h : VW 8} {n : Nat}
theorem Sum_spec (hc : Cub w0) (hs : Sep w0 w (st g h s n :: ownB s r :: As)) (hr : r.length < 64) (hn : n ≤ 100000) :
    cal P f_sha_State_Sum [.pointer (some ⟨g, 0, none⟩)] w fun v w' => v = .agg (bvs ((foldM h.1 (padT r n)).flatMap wOut)).toArray ∧ Sep w0 w' (st g h s n :: ownB s r :: As) := by
  refine s_sha_State_Sum fun R hR => ?_
  unfold c_sha_State_Sum
  refine alloc_s hs (A_api_ID w) fun g2 w1 hs => ?_
  refine alloc_s hs (A_api_ID w1) fun g3 w2 hs => ?_
  refine cal_i (none_spec (Sep.p2 hs)) ?_
  rintro _ _ ⟨rfl, rfl⟩
  simp only [fx, Nat.reduceAdd, forall_const, ldS_s (Sep.p2 hs).blk]
  refine cal_i (bClone_spec (Sep.p3 hs).rd (by omega)) ?_
  rintro v1 w3 hs1
  replace hs1 := hs.join hs1
  refine app0 128 (.inr rfl) hs1 (by omega) fun v2 w4 hs2 => ?_
  rw [if_neg (by decide)] at hs2
  obtain ⟨Bs, hBs⟩ : ∃ Bs, Bs = blk g3 (Rdr.cells (rVec 32) (vz 32)).toArray T_api_ID :: blk g2 (Rdr.cells (rVec 32) (vz 32)).toArray T_api_ID :: st g h s n :: ownB s r :: As := ⟨_, rfl⟩
  have hz := zer_le (r.length + 1)
  have hs2' : Sep w0 w4 (ownB v2 (r ++ [128]) :: Bs) := by rw [hBs]; exact hs2
  refine ⟨fun a w' => ∃ j : Nat, j ≤ zer (r.length + 1) ∧ Sep w0 w' (ownB a (r ++ [128] ++ List.replicate j 0) :: Bs), fun a _ => match a with
    | .slice _ n _ => (r.length + 1 + zer (r.length + 1)) - n
    | _ => 0, ⟨0, by omega, by simpa using hs2'⟩, ?_⟩
  rintro v3 w5 ⟨j, hj, hs3⟩ -
  obtain ⟨a3, c3, rfl⟩ := Sep.sl hs3
  have hlen : (r ++ [128] ++ List.replicate j 0).length = r.length + 1 + j := by simp; omega
  simp only [lenS_mk, hlen]
  rw [bi_rem .i64 _ _ _ (by decide), show (64 : Int) = ((64 : Nat) : Int) from rfl, tmodn, bi_neq, cnd_bool]
  refine ⟨fun hq => ?_, fun hq => ?_⟩
  · have h56 : (r.length + 1 + j) % 64 ≠ 56 := by simp at hq; omega
    have hjz : j < zer (r.length + 1) := by
      rcases Nat.lt_or_ge j (zer (r.length + 1)) with h' | h'
      · exact h'
      · have : j = zer (r.length + 1) := by omega
        rw [this, zer_eq] at h56
        exact absurd rfl h56
    rw [← hlen]
    refine app0 0 (.inl rfl) hs3 (by rw [hlen]; omega) fun v4 w6 hs4 => ?_
    rw [if_pos rfl] at hs4
    have e : r ++ [128] ++ List.replicate j 0 ++ [0] = r ++ [128] ++ List.replicate (j + 1) 0 := by rw [List.replicate_succ', List.append_assoc]
    rw [e] at hs4
    obtain ⟨a4, c4, rfl⟩ := Sep.sl hs4
    refine ⟨⟨j + 1, by omega, hs4⟩, ?_⟩
    simp
    omega
  · have h56 : (r.length + 1 + j) % 64 = 56 := by simp at hq; omega
    have hjz : j = zer (r.length + 1) := by
      rcases Nat.lt_or_ge j (zer (r.length + 1)) with h' | h'
      · exact absurd h56 (zer_lt h')
      · omega
    rw [← hlen]
    have hst : Sep w0 w5 (st g h s n :: blk g3 (Rdr.cells (rVec 32) (vz 32)).toArray T_api_ID :: blk g2 (Rdr.cells (rVec 32) (vz 32)).toArray T_api_ID :: ownB s r :: As) := by
      have := hs3.tail
      rw [hBs] at this
      exact this.p2
    simp only [fx, Nat.reduceAdd, forall_const, ldS_n hst.blk]
    rw [wu64n, Nat.mod_eq_of_lt (by omega), show ((n : Int) * 8) = ((n * 8 : Nat) : Int) by simp, wu64n]
    generalize hv : n * 8 % 18446744073709551616 = x
    have hvb : x < 18446744073709551616 := by omega
    refine ⟨fun a c w' => ∃ i : Nat, c = .int .i64 i ∧ i ≤ 8 ∧ Sep w0 w' (ownB a (r ++ [128] ++ List.replicate j 0 ++ (be 8 x).take i) :: Bs), fun _ c _ => (8 - RowKit.intOf c).toNat, ⟨0, rfl, by omega, by simpa using hs3⟩, ?_⟩
    rintro v5 _ w6 ⟨i, rfl, hi, hs5⟩ -
    simp only [fx, Nat.reduceAdd, forall_const]
    rw [cnd_bool]
    refine ⟨fun hq => ?_, fun hq => ?_⟩
    · have h8 : i < 8 := by simp at hq; omega
      have e1 : IntKind.i64.wrap (56 - IntKind.i64.wrap (8 * (i : Int))) = ((56 - 8 * i : Nat) : Int) := by
        rw [wi64 (x := 8 * (i : Int)) (by omega) (by omega), wi64 (by omega) (by omega)]
        omega
      have hsh : ∀ K, sh .shr (.int .u64 (x : Int)) (.int .i64 ((56 - 8 * i : Nat) : Int)) K = K (.int .u64 ((x / 256 ^ (7 - i) : Nat) : Int)) := fun K => by
        have := shr56 x i h8 K
        rw [sh_shr _ _ _ _ _ (by omega)] at this ⊢
        exact this
      rw [e1, hsh]
      rw [cvi_int, bv_of _ (Int.natCast_nonneg _), Int.toNat_natCast]
      refine app1 hs5 (by simp [be_length]; omega) fun v6 w7 hs6 => ?_
      rw [wi64 (by omega) (by omega)]
      rw [List.append_assoc, ← be_take x 8 i h8] at hs6
      exact ⟨⟨i + 1, by simp, by omega, hs6⟩, by simp [RowKit.intOf]; omega⟩
    · have h8 : i = 8 := by simp at hq; omega
      subst h8
      rw [List.take_of_length_le (by rw [be_length]; omega)] at hs5
      have hpad : r ++ [128] ++ List.replicate j 0 ++ be 8 x = padT r n := by rw [padT, hv, ← hjz]
      rw [hpad] at hs5
      have hlp : (padT r n).length ≤ 200 := by
        rw [padT]
        simp [be_length]
        omega
      have hmod := padT_len r n
      generalize padT r n = pad at *
      have hst5 : Sep w0 w6 (st g h s n :: blk g3 (Rdr.cells (rVec 32) (vz 32)).toArray T_api_ID :: blk g2 (Rdr.cells (rVec 32) (vz 32)).toArray T_api_ID :: ownB s r :: As) := by
        have := hs5.tail
        rw [hBs] at this
        exact this.p2
      simp only [fx, Nat.reduceAdd, forall_const, ldS_h hst5.blk]
      refine alloc_s hs5 (A_a8 w6) fun g4 w7 hs6 => ?_
      refine stN_w hs6 (by simp) h.2 fun w8 hs7 => ?_
      obtain ⟨a5, c5, rfl, hc5⟩ := Sep.form (Sep.p1 hs7)
      refine ⟨fun u w' => ∃ (k : Nat) (h' : VW 8), k ≤ pad.length ∧ k % 64 = 0 ∧ foldM h.1 pad = foldM h'.1 (pad.drop k) ∧ Rest (.slice a5 pad.length c5) pad u (pad.drop k) ∧ Sep w0 w' (wa g4 h'.1 T_a8_uint32 :: ownB (.slice a5 pad.length c5) pad :: Bs), fun u _ => match u with
        | .slice _ n _ => n
        | _ => 0, ⟨0, h, by omega, rfl, rfl, Rest.start hc5, hs7⟩, ?_⟩
      rintro u w9 ⟨k, h', hk, hkm, hf, hrest, hs8⟩ -
      simp only [hrest.len, List.length_drop]
      rw [bi_gtr, cnd_bool]
      refine ⟨fun hlt => ?_, fun hlt => ?_⟩
      · have h64 : 64 ≤ (pad.drop k).length := by simp at hlt ⊢; omega
        refine drH_s hs8 fun w10 hs9 _ => ?_
        simp only [fx, Nat.reduceAdd, forall_const, rdS_ldN]
        rw [ldN_w hs9.blk h'.2]
        refine hrest.to h64 _ fun y hy => ?_
        refine efC_cal (cal_i (mixed_spec (hc.fr hs9.fr0) (hy _ (Sep.rd hs9.p1)) (by rw [List.length_take]; omega) h'.2) ?_)
        rintro _ w11 ⟨rfl, hf11⟩
        have hs10 := hs9.old hf11
        have hml := mixM_len ((pad.drop k).take 64) h'.2
        refine efC_stN (stN_w hs10 h'.2 hml fun w12 hs11 => ?_)
        refine hrest.from h64 _ fun u' hu' => ?_
        rw [List.drop_drop] at hu'
        have hll : k + 64 ≤ pad.length := by simp at h64; omega
        refine ⟨⟨k + 64, ⟨_, hml⟩, hll, by omega, ?_, hu', hs11⟩, ?_⟩
        · rw [hf, foldM_step h64, List.drop_drop]
        · obtain ⟨_, n1, _, rfl, e1, _⟩ := hrest
          obtain ⟨_, n2, _, rfl, e2, _⟩ := hu'
          simp only [List.length_drop] at e1 e2
          simp only []
          omega
      · have hge : k = pad.length := by simp at hlt; omega
        subst hge
        rw [List.drop_length, foldM_end (h := h'.1) (l := []) (by simp)] at hf
        rw [hf] at hR
        obtain ⟨o, ho⟩ : ∃ o, o = h'.1.flatMap wOut := ⟨_, rfl⟩
        have hol : o.length = 32 := by rw [ho, wOut_len, h'.2]
        rw [← ho] at hR
        rw [ldN_w hs8.blk h'.2]
        have hs9 : Sep w0 w9 (blk g3 (Rdr.cells (rVec 32) (vz 32)).toArray T_api_ID :: blk g2 (Rdr.cells (rVec 32) (vz 32)).toArray T_api_ID :: st g h s n :: ownB s r :: As) := by
          have := hs8.tail.tail
          rw [hBs] at this
          exact this
        have e0 : bvs (part o (4 * 0)) = Rdr.cells (rVec 32) (vz 32) := by rw [Nat.mul_zero, part_zero, hol]; rfl
        refine ⟨fun a w' => ∃ i : Nat, a = .int .i64 i ∧ i ≤ 8 ∧ Sep w0 w' (blk g3 (bvs (part o (4 * i))).toArray T_api_ID :: blk g2 (Rdr.cells (rVec 32) (vz 32)).toArray T_api_ID :: st g h s n :: ownB s r :: As),
          fun z _ => (8 - RowKit.intOf z).toNat, ⟨0, rfl, by omega, by rw [e0]; exact hs9⟩, ?_⟩
        rintro _ w10 ⟨i, rfl, hi, hs10⟩ -
        simp only [fx, Nat.reduceAdd, forall_const]
        rw [cnd_bool]
        refine ⟨fun hlt => ?_, fun hlt => ?_⟩
        · have h8 : i < 8 := by simp at hlt; omega
          have ei : IntKind.i64.wrap (4 * (i : Int)) = ((4 * i : Nat) : Int) := by rw [wi64 (by omega) (by omega)]; omega
          have e1 : IntKind.i64.wrap (((4 * i : Nat) : Int) + 1) = ((4 * i + 1 : Nat) : Int) := by rw [wi64 (by omega) (by omega)]; omega
          have e2 : IntKind.i64.wrap (((4 * i : Nat) : Int) + 2) = ((4 * i + 2 : Nat) : Int) := by rw [wi64 (by omega) (by omega)]; omega
          have e3 : IntKind.i64.wrap (((4 * i : Nat) : Int) + 3) = ((4 * i + 3 : Nat) : Int) := by rw [wi64 (by omega) (by omega)]; omega
          have hg : ∀ m : Nat, m < 4 → o[4 * i + m]? = some (UInt8.ofNat ((h'.1.getD i 0) >>> (24 - 8 * m)).toNat) := fun m hm => by
            have h8' := h'.2
            rw [ho, wOut_get (by omega), show (4 * i + m) / 4 = i by omega, show (4 * i + m) % 4 = m by omega]
          rw [ixv_w .i64 h'.2 h8, ei, e1, e2, e3, shr_l _ .u64 24 (by decide) (by decide), w_b, shr_l _ .u64 16 (by decide) (by decide), w_b, shr_l _ .u64 8 (by decide) (by decide), w_b, w_b]
          rw [ixa_w .i64 (by omega)]
          refine st_b hs10 (hg 0 (by decide)) fun w11 hs11 => ?_
          rw [ixa_w .i64 (by omega)]
          refine st_b hs11 (hg 1 (by decide)) fun w12 hs12 => ?_
          rw [ixa_w .i64 (by omega)]
          refine st_b hs12 (hg 2 (by decide)) fun w13 hs13 => ?_
          rw [ixa_w .i64 (by omega)]
          refine st_b hs13 (hg 3 (by decide)) fun w14 hs14 => ?_
          rw [wi64 (by omega) (by omega)]
          exact ⟨⟨i + 1, by simp, by omega, hs14⟩, by simp [RowKit.intOf]; omega⟩
        · have h8 : i = 8 := by simp at hlt; omega
          subst h8
          have e2 : bvs (part o (4 * 8)) = Rdr.cells (rVec 32) ⟨o, hol⟩ := by
            rw [show 4 * 8 = o.length by omega, part_all]
            rfl
          rw [e2] at hs10
          simp only [L_api_ID hs10.blk]
          refine St_api_ID hs10.p1 fun w15 hs15 => ?_
          simp only [L_api_ID hs15.blk]
          exact hR _ _ ⟨rfl, hs15.d1.tail⟩
/-- The program's sum is the plain one. -/
theorem shaSum_spec (hc : Cub w) (hb : RdB w.heap b l) (hl : l.length ≤ 100000) : cal P f_sha_Sum [b] w fun v w' => v = .agg (Rdr.cells (rVec 32) (shaM l)).toArray ∧ Fr [] w w' := by
  refine s_sha_Sum fun R hR => ?_
  unfold c_sha_Sum
  refine alloc_s (Sep.start w) (A_api_ID w) fun g2 w1 hs => ?_
  refine cal_i New_spec ?_
  rintro _ w2 ⟨g, rfl, hs1⟩
  replace hs1 := hs.join hs1
  have hbs : ∀ (w : World), (Instr.buildSlice T_sl_sl_uint8 1 #[(0, b)]).run P w = .ok (.slice (some ⟨w.heap.size, 0, none⟩) 1 1) (w.alloc (.cells ([b] : List Value).toArray T_sl_uint8)) := by
    obtain ⟨a, c, rfl, _⟩ := hb
    intro w
    kernel_rfl
  refine build_s (cs := [b]) (size := 1) hs1 rfl (hbs _) fun g3 w3 hs3 => ?_
  refine cal_i (Write_spec hc (Sep.p1 hs3) (.inr ⟨_, rfl⟩) hb hl) ?_
  rintro _ w4 ⟨a, r, h, s, rfl, ha, hr, hh, hs4⟩
  refine cal_i (Sum_spec (n := (a ++ r).length) hc hs4 hr hl) ?_
  rintro _ w5 ⟨rfl, hs5⟩
  have e : foldM h.1 (padT r (a ++ r).length) = shaL (a ++ r) := by rw [shaL, padT_app _ _ _ ha, foldM_app ha, hh]
  have e2 : bvs ((foldM h.1 (padT r (a ++ r).length)).flatMap wOut) = Rdr.cells (rVec 32) (shaM (a ++ r)) := by rw [e]; rfl
  rw [e2]
  refine St_api_ID (Sep.p3 hs5) fun w6 hs6 => ?_
  simp only [L_api_ID hs6.blk]
  exact hR _ _ ⟨rfl, hs6.fr0⟩
end
end Go.Fx
set_option linter.unusedVariables false
set_option linter.unusedSimpArgs false
namespace Go.Fx
structure Blk where
  p : Vec 32
  h : Int
  d : List UInt8
deriving DecidableEq
def Blk.none : Blk := ⟨vz 32, 0, []⟩
def Blk.chk (b : Blk) : Int := if b.h < 0 ∨ 200 < b.d.length ∨ (b.h = 0 ∧ b.p ≠ vz 32) then 30 else 0
theorem Blk.chk_or (b : Blk) : b.chk = 0 ∨ b.chk = 30 := by unfold Blk.chk; split <;> simp
theorem Blk.chk_ok {b : Blk} (h : b.chk = 0) : 0 ≤ b.h ∧ b.d.length ≤ 200 ∧ (b.h = 0 → b.p = vz 32) := by
  unfold Blk.chk at h
  split at h
  · cases h
  · rename_i hn
    refine ⟨by omega, by omega, fun h0 => ?_⟩
    by_cases hp : b.p = vz 32
    · exact hp
    · exact absurd (.inr (.inr ⟨h0, hp⟩)) hn
/-- A block as a value: its data stand where v says. -/
abbrev bq (b : Blk) (v : Value) : Value := .agg (Rdr.cells Q_api_Block (b.p, b.h, v)).toArray
abbrev bb (g : Nat) (b : Blk) (v : Value) : Asn := blk g (Rdr.cells Q_api_Block (b.p, b.h, v)).toArray T_api_Block
theorem B_ID0 {w : World} (K : Value → Prop) : rdP P (Instr.build T_api_ID #[]) w K = K (.agg (Rdr.cells (rVec 32) (vz 32)).toArray) := rdP_eq (by kernel_rfl) K
theorem bxQ {w0 w : World} {As : List Asn} {t : TypeId} {cs : Array Value} {K : Value → World → Prop} (hs : Sep w0 w As) (h : ∀ g w', Sep w0 w' (blk g cs t :: As) → K (.pointer (some ⟨g, 0, .none⟩)) w') : bx t (.agg cs) w K := bx_s hs fun g w' hs' => h g w' hs'
theorem RdB.one {h : Heap} {v : Value} {l : List UInt8} (hr : RdB h v l) : v.oneCell' = true := by obtain ⟨a, c, rfl⟩ := hr.form; rfl
section
variable {w0 w : World} {As : List Asn} {v u : Value} {a b : Blk}
theorem Check_spec (hb : RdB w.heap v b.d) : cal P f_block_Check [bq b v] w fun r w' => r = .int .i64 b.chk ∧ Fr [] w w' := by
  refine s_block_Check fun R hR => ?_
  unfold c_block_Check
  refine bxQ (Sep.start w) fun g w1 hs => ?_
  have hl := (hs.rdB hb).len
  have hf := hs.fr0
  have fin : ∀ c : Int, b.chk = c → R (.int .i64 c) w1 := fun c hc => hR _ _ ⟨by rw [hc], hf⟩
  by_cases h : b.h < 0
  · simp only [h, decide_true, fx, Nat.reduceAdd, forall_const, L_api_Block hs.blk, L_api_Block__Parent hs.blk, L_api_Block__Height hs.blk, L_api_Block__Data hs.blk]
    exact fin 30 (by simp [Blk.chk, h])
  · by_cases h2 : 200 < b.d.length
    · have e : decide ((200 : Int) < b.d.length) = true := by simp; omega
      simp only [h, decide_false, e, hl, fx, Nat.reduceAdd, forall_const, L_api_Block hs.blk, L_api_Block__Parent hs.blk, L_api_Block__Height hs.blk, L_api_Block__Data hs.blk]
      exact fin 30 (by simp [Blk.chk, h2])
    · have e : decide ((200 : Int) < b.d.length) = false := by simp; omega
      by_cases h0 : b.h = 0
      · simp only [h, decide_false, e, hl, fx, Nat.reduceAdd, forall_const, L_api_Block hs.blk, L_api_Block__Parent hs.blk, L_api_Block__Height hs.blk, L_api_Block__Data hs.blk, B_ID0, ne_api_ID, h0, show ((0 : Int) == 0) = true from rfl, show decide ((0 : Int) < 0) = false from rfl]
        rw [cnd_bool]
        refine ⟨fun h3 => fin 30 ?_, fun h3 => fin 0 ?_⟩
        · have h3 : b.p ≠ vz 32 := by simpa using h3
          simp [Blk.chk, h0, h3]
        · have h3 : b.p = vz 32 := by simpa using h3
          unfold Blk.chk
          rw [if_neg (by rw [h3]; simp; omega)]
      · have he : (b.h == 0) = false := by simpa using h0
        simp only [h, decide_false, e, hl, fx, Nat.reduceAdd, forall_const, L_api_Block hs.blk, L_api_Block__Parent hs.blk, L_api_Block__Height hs.blk, L_api_Block__Data hs.blk, he]
        refine fin 0 ?_
        unfold Blk.chk
        rw [if_neg (by simp [h0]; omega)]
theorem Blk.ext_iff' {a b : Blk} : a = b ↔ a.p = b.p ∧ a.h = b.h ∧ a.d = b.d := by
  cases a; cases b; simp
theorem rSame_spec (ha : RdB w.heap u a.d) (hb : RdB w.heap v b.d) : cal P f_ref03_Same [bq a u, bq b v] w fun r w' => r = .bool (decide (a = b)) ∧ Fr [] w w' := by
  refine s_ref03_Same fun R hR => ?_
  unfold c_ref03_Same
  refine bxQ (Sep.start w) fun g w1 hs => ?_
  refine bxQ hs fun g2 w2 hs2 => ?_
  have hf := hs2.fr0
  have fin : ∀ c : Bool, decide (a = b) = c → R (.bool c) w2 := fun c hc => hR _ _ ⟨by rw [hc], hf⟩
  simp only [fx, Nat.reduceAdd, forall_const, L_api_Block hs2.blk, L_api_Block__Parent hs2.blk, L_api_Block__Height hs2.blk, L_api_Block__Data hs2.blk, L_api_Block (Sep.p1 hs2).blk, L_api_Block__Parent (Sep.p1 hs2).blk, L_api_Block__Height (Sep.p1 hs2).blk, L_api_Block__Data (Sep.p1 hs2).blk, eq_api_ID]
  by_cases hp : a.p = b.p
  · simp only [hp, decide_true, fx, Nat.reduceAdd, forall_const, L_api_Block hs2.blk, L_api_Block__Parent hs2.blk, L_api_Block__Height hs2.blk, L_api_Block__Data hs2.blk, L_api_Block (Sep.p1 hs2).blk, L_api_Block__Parent (Sep.p1 hs2).blk, L_api_Block__Height (Sep.p1 hs2).blk, L_api_Block__Data (Sep.p1 hs2).blk]
    by_cases hh : a.h = b.h
    · simp only [hh, fx, Nat.reduceAdd, forall_const, beq_self_eq_true, L_api_Block hs2.blk, L_api_Block__Parent hs2.blk, L_api_Block__Height hs2.blk, L_api_Block__Data hs2.blk, L_api_Block (Sep.p1 hs2).blk, L_api_Block__Parent (Sep.p1 hs2).blk, L_api_Block__Height (Sep.p1 hs2).blk, L_api_Block__Data (Sep.p1 hs2).blk]
      refine jn1_dup ?_
      rw [rdP_eq (conv_str UT_bytes UT_uint8 UT_string (hs2.rdB ha)), rdP_eq (conv_str UT_bytes UT_uint8 UT_string (hs2.rdB hb)), eqS_str]
      intro _
      refine fin _ ?_
      rw [Bool.eq_iff_iff]
      simp [Blk.ext_iff', hp, hh]
    · have e : (a.h == b.h) = false := by simpa using hh
      simp only [e, fx, Nat.reduceAdd, forall_const]
      exact fin _ (by simp [Blk.ext_iff', hh])
  · simp only [hp, decide_false, fx, Nat.reduceAdd, forall_const]
    exact fin _ (by simp [Blk.ext_iff', hp])
theorem bkClone_spec (hb : RdB w.heap v b.d) (hl : b.d.length ≤ 140737488355328) : cal P f_block_Clone [bq b v] w fun r w' => ∃ v', r = bq b v' ∧ Sep w w' [ownB v' b.d] := by
  refine s_block_Clone fun R hR => ?_
  unfold c_block_Clone
  refine bxQ (Sep.start w) fun g w1 hs => ?_
  refine alloc_s hs (A_api_Block w1) fun g2 w2 hs2 => ?_
  simp only [fx, Nat.reduceAdd, forall_const, L_api_Block (Sep.p1 hs2).blk, L_api_Block__Parent (Sep.p1 hs2).blk, L_api_Block__Height (Sep.p1 hs2).blk, L_api_Block__Data (Sep.p1 hs2).blk]
  refine cal_i (bClone_spec (hs2.rdB hb) hl) ?_
  rintro v' w3 hs3
  replace hs3 := (hs2.join hs3).p2
  refine St_api_Block__Data hs3 (Sep.one hs3.p1) fun w4 hs4 => ?_
  simp only [L_api_Block hs4.blk, L_api_Block__Parent hs4.blk, L_api_Block__Height hs4.blk, L_api_Block__Data hs4.blk]
  refine St_api_Block hs4.p2 (one_api_Block (Sep.one hs4.p1)) fun w5 hs5 => ?_
  simp only [L_api_Block hs5.blk, L_api_Block__Parent hs5.blk, L_api_Block__Height hs5.blk, L_api_Block__Data hs5.blk]
  exact hR _ _ ⟨v', rfl, hs5.d1.tail⟩
/-- A block, if it may be. -/
def Blk.mk' (b : Blk) : Blk := if b.chk = 0 then b else Blk.none
theorem made_spec (hb : RdB w.heap v b.d) : cal P f_block_made [bq b v] w fun r w' => ∃ v', r = .tuple #[bq b.mk' v', .int .i64 b.chk] ∧ Sep w w' [ownB v' b.mk'.d] := by
  refine s_block_made fun R hR => ?_
  unfold c_block_made
  refine bxQ (Sep.start w) fun g w1 hs => ?_
  refine alloc_s hs (A_api_Block w1) fun g2 w2 hs2 => ?_
  simp only [fx, Nat.reduceAdd, forall_const, L_api_Block (Sep.p1 hs2).blk, L_api_Block__Parent (Sep.p1 hs2).blk, L_api_Block__Height (Sep.p1 hs2).blk, L_api_Block__Data (Sep.p1 hs2).blk]
  refine cal_i (Check_spec (hs2.rdB hb)) ?_
  rintro _ w3 ⟨rfl, hf3⟩
  have hs3 := hs2.old hf3
  rw [bi_neq]
  rcases Blk.chk_or b with h0 | h0
  · have hck := Blk.chk_ok h0
    have hm : b.mk' = b := by rw [Blk.mk', if_pos h0]
    rw [hm, h0] at hR
    simp only [h0, fx, Nat.reduceAdd, forall_const, L_api_Block (Sep.p1 hs3).blk, L_api_Block__Parent (Sep.p1 hs3).blk, L_api_Block__Height (Sep.p1 hs3).blk, L_api_Block__Data (Sep.p1 hs3).blk, show ((0 : Int) != 0) = false from rfl]
    refine cal_i (bkClone_spec (hs3.rdB hb) (by omega)) ?_
    rintro _ w4 ⟨v', rfl, hs4⟩
    replace hs4 := (hs3.join hs4).p1
    refine St_api_Block hs4 (one_api_Block (Sep.one hs4.p1)) fun w5 hs5 => ?_
    simp only [L_api_Block hs5.blk, L_api_Block__Parent hs5.blk, L_api_Block__Height hs5.blk, L_api_Block__Data hs5.blk]
    exact hR _ _ ⟨v', rfl, hs5.d2.tail⟩
  · have hm : b.mk' = Blk.none := by rw [Blk.mk', if_neg (by omega)]
    rw [hm, h0] at hR
    simp only [h0, fx, Nat.reduceAdd, forall_const, B_api_Block, show ((30 : Int) != 0) = true from rfl]
    refine St_api_Block hs3 (one_api_Block rfl) fun w5 hs5 => ?_
    simp only [L_api_Block hs5.blk, L_api_Block__Parent hs5.blk, L_api_Block__Height hs5.blk, L_api_Block__Data hs5.blk]
    exact hR _ _ ⟨_, rfl, hs5.d1.tail.nil⟩
def Blk.first (d : List UInt8) : Blk := ⟨vz 32, 0, d⟩
theorem First_spec {l : List UInt8} (hb : RdB w.heap v l) : cal P f_block_First [v] w fun r w' => ∃ v', r = .tuple #[bq (Blk.first l).mk' v', .int .i64 (Blk.first l).chk] ∧ Sep w w' [ownB v' (Blk.first l).mk'.d] := by
  refine s_block_First fun R hR => ?_
  unfold c_block_First
  refine alloc_s (Sep.start w) (A_api_Block w) fun g2 w2 hs2 => ?_
  rw [B_api_Block_2 hb.one]
  obtain ⟨b, hbb⟩ : ∃ b, b = Blk.first l := ⟨_, rfl⟩
  have e : Value.agg (Rdr.cells Q_api_Block (vz 32, (0 : Int), v)).toArray = bq b v := by rw [hbb]; rfl
  have hd : b.d = l := by rw [hbb]; rfl
  rw [← hbb] at hR
  rw [e]
  refine cal_i (made_spec (b := b) (by rw [hd]; exact hs2.rdB hb)) ?_
  rintro _ w3 ⟨v', rfl, hs3⟩
  replace hs3 := (hs2.join hs3).p1
  simp only [fx, Nat.reduceAdd, forall_const]
  refine St_api_Block hs3 (one_api_Block (Sep.one hs3.p1)) fun w5 hs5 => ?_
  simp only [L_api_Block hs5.blk, L_api_Block__Parent hs5.blk, L_api_Block__Height hs5.blk, L_api_Block__Data hs5.blk]
  exact hR _ _ ⟨v', rfl, hs5.tail⟩
end
end Go.Fx
set_option linter.unusedVariables false
set_option linter.unusedSimpArgs false
namespace Go.Fx
def Blk.bytes (b : Blk) : List UInt8 := [0, 0] ++ b.p.1 ++ be 8 b.h.toNat ++ be 4 b.d.length ++ b.d
theorem Blk.bytes_len (b : Blk) : b.bytes.length = 46 + b.d.length := by
  have := b.p.2
  simp [Blk.bytes, be_length, this]
  omega
def Blk.out (b : Blk) : List UInt8 := if b.chk = 0 then b.bytes else []
def Blk.id (b : Blk) : Vec 32 := shaM b.bytes
def Blk.name (b : Blk) : Vec 32 := if b.chk = 0 then b.id else vz 32
abbrev maxI : Int := 9223372036854775807
section
variable {w0 w : World} {As : List Asn} {v u : Value} {a b : Blk} {g : Nat}
theorem at_par (hs : Sep w0 w (bb g b v :: As)) : At w.heap g 0 (bvs b.p.1) := by
  have := (Fld.fst Fld.self : Fld Q_api_Block (rVec 32) 0 _ _).at (At.blk (cs := Rdr.cells Q_api_Block (b.p, b.h, v)) hs.blk)
  exact this
theorem rd_par (hs : Sep w0 w (bb g b v :: As)) (c : Nat) : RdB w.heap (.slice (some ⟨g, 0, none⟩) 32 c) b.p.1 := by
  have := At.rd (c := c) (at_par hs)
  rwa [b.p.2] at this
theorem u64_h {h : Int} (h0 : 0 ≤ h) (h1 : h ≤ maxI) : IntKind.u64.wrap h = (h.toNat : Int) := by
  unfold maxI at h1
  rw [wu64i h0 (by omega)]; omega
theorem bkBytes_spec (hb : RdB w.heap v b.d) (hh : b.h ≤ maxI) : cal P f_block_Bytes [bq b v] w fun r w' => ∃ s, r = .tuple #[s, .int .i64 b.chk] ∧ Sep w w' [ownB s b.out] := by
  refine s_block_Bytes fun R hR => ?_
  unfold c_block_Bytes
  refine bxQ (Sep.start w) fun g w1 hs => ?_
  simp only [L_api_Block hs.blk, L_api_Block__Parent hs.blk, L_api_Block__Height hs.blk, L_api_Block__Data hs.blk]
  refine cal_i (Check_spec (hs.rdB hb)) ?_
  rintro _ w2 ⟨rfl, hf2⟩
  have hs2 := hs.old hf2
  rw [bi_neq]
  rcases Blk.chk_or b with h0 | h0
  · have hck := Blk.chk_ok h0
    have ho : b.out = b.bytes := by rw [Blk.out, if_pos h0]
    rw [ho, h0] at hR
    simp only [h0, fx, Nat.reduceAdd, forall_const, show ((0 : Int) != 0) = false from rfl]
    refine cal_i (NewS 246 (by omega)) ?_
    rintro _ w3 ⟨gp, rfl, hs3⟩
    replace hs3 := hs2.join hs3
    refine cal_i (ShortS hs3 (v := 0) (by omega) (by omega) (by simp)) ?_
    rintro _ w4 ⟨rfl, s4, hs4⟩
    rw [sla_all]
    refine cal_i (FixedS hs4 (c := b.p.1) (by omega) (fun z hz => rd_par hz 32) (by simp [be_length, b.p.2])) ?_
    rintro _ w5 ⟨rfl, s5, hs5⟩
    simp only [fx, Nat.reduceAdd, forall_const, L_api_Block (Sep.p2 hs5).blk, L_api_Block__Parent (Sep.p2 hs5).blk, L_api_Block__Height (Sep.p2 hs5).blk, L_api_Block__Data (Sep.p2 hs5).blk, u64_h hck.1 hh]
    refine cal_i (LongS hs5 (by omega) (by unfold maxI at hh; omega) (by simp [be_length, b.p.2])) ?_
    rintro _ w6 ⟨rfl, s6, hs6⟩
    simp only [fx, Nat.reduceAdd, forall_const, L_api_Block (Sep.p2 hs6).blk, L_api_Block__Parent (Sep.p2 hs6).blk, L_api_Block__Height (Sep.p2 hs6).blk, L_api_Block__Data (Sep.p2 hs6).blk]
    refine cal_i (BytesS hs6 (by omega) (fun z hz => hz.rdB hb) (by simp [be_length, b.p.2]; omega)) ?_
    rintro _ w7 ⟨rfl, s7, hs7⟩
    refine cal_i (OutS hs7 (by simp [be_length, b.p.2]; omega)) ?_
    rintro _ w8 ⟨r, rfl, hs8⟩
    simp only [fx, Nat.reduceAdd, forall_const]
    have e : [] ++ be 2 0 ++ b.p.1 ++ be 8 b.h.toNat ++ (be 4 b.d.length ++ b.d) = b.bytes := by
      simp [Blk.bytes, be]
    rw [e] at hs8
    exact hR _ _ ⟨r, rfl, hs8.d1.d1.d1⟩
  · have ho : b.out = [] := by rw [Blk.out, if_neg (by omega)]
    rw [ho, h0] at hR
    simp only [h0, fx, Nat.reduceAdd, forall_const, show ((30 : Int) != 0) = true from rfl]
    exact hR _ _ ⟨_, rfl, hs2.tail.nil⟩
theorem bkID_spec (hc : Cub w) (hb : RdB w.heap v b.d) (hh : b.h ≤ maxI) : cal P f_block_ID [bq b v] w fun r w' => r = .tuple #[.agg (Rdr.cells (rVec 32) b.name).toArray, .int .i64 b.chk] ∧ Fr [] w w' := by
  refine s_block_ID fun R hR => ?_
  unfold c_block_ID
  refine bxQ (Sep.start w) fun g w1 hs => ?_
  refine alloc_s hs (A_api_ID w1) fun g2 w2 hs2 => ?_
  simp only [L_api_Block (Sep.p1 hs2).blk, L_api_Block__Parent (Sep.p1 hs2).blk, L_api_Block__Height (Sep.p1 hs2).blk, L_api_Block__Data (Sep.p1 hs2).blk]
  refine cal_i (bkBytes_spec (hs2.rdB hb) hh) ?_
  rintro _ w3 ⟨s, rfl, hs3⟩
  replace hs3 := hs2.join hs3
  simp only [fx, Nat.reduceAdd, forall_const]
  rcases Blk.chk_or b with h0 | h0
  · have hck := Blk.chk_ok h0
    have ho : b.out = b.bytes := by rw [Blk.out, if_pos h0]
    have hn : b.name = shaM b.bytes := by rw [Blk.name, if_pos h0, Blk.id]
    rw [ho] at hs3
    rw [hn, h0] at hR
    simp only [h0, fx, Nat.reduceAdd, forall_const, show ((0 : Int) != 0) = false from rfl]
    refine cal_i (shaSum_spec (hc.fr hs3.fr0) (Sep.rd hs3) (by rw [Blk.bytes_len]; omega)) ?_
    rintro _ w4 ⟨rfl, hf4⟩
    have hs4 := (hs3.old hf4).p1
    refine St_api_ID hs4 fun w5 hs5 => ?_
    simp only [L_api_ID hs5.blk]
    exact hR _ _ ⟨rfl, hs5.fr0⟩
  · have hn : b.name = vz 32 := by rw [Blk.name, if_neg (by omega)]
    rw [hn, h0] at hR
    simp only [h0, fx, Nat.reduceAdd, forall_const, B_ID0, show ((30 : Int) != 0) = true from rfl]
    refine St_api_ID hs3.p1 fun w5 hs5 => ?_
    simp only [L_api_ID hs5.blk]
    exact hR _ _ ⟨rfl, hs5.fr0⟩
end
end Go.Fx
set_option linter.unusedVariables false
set_option linter.unusedSimpArgs false
namespace Go.Fx
def Blk.kid (b : Blk) (d : List UInt8) : Blk := ⟨b.id, b.h + 1, d⟩
def Blk.kidOk (b : Blk) (d : List UInt8) : Prop := b.chk = 0 ∧ b.h ≠ maxI ∧ d.length ≤ 200
instance (b : Blk) (d : List UInt8) : Decidable (b.kidOk d) := by unfold Blk.kidOk; infer_instance
def Blk.child (b : Blk) (d : List UInt8) : Blk := if b.kidOk d then b.kid d else Blk.none
def Blk.childE (b : Blk) (d : List UInt8) : Int := if b.kidOk d then 0 else 30
theorem Blk.kid_chk {b : Blk} {d : List UInt8} (h : 0 ≤ b.h) : (b.kid d).chk = if 200 < d.length then 30 else 0 := by
  unfold Blk.chk Blk.kid
  by_cases hd : 200 < d.length
  · rw [if_pos (.inr (.inl hd)), if_pos hd]
  · rw [if_neg (by simp; omega), if_neg hd]
section
variable {w0 w : World} {As : List Asn} {v u : Value} {a b : Blk} {g : Nat} {d : List UInt8}
theorem Child_spec (hc : Cub w) (hb : RdB w.heap v b.d) (hd : RdB w.heap u d) (hh : b.h ≤ maxI) : cal P f_block_Child [bq b v, u] w fun r w' => ∃ v', r = .tuple #[bq (b.child d) v', .int .i64 (b.childE d)] ∧ Sep w w' [ownB v' (b.child d).d] := by
  refine s_block_Child fun R hR => ?_
  unfold c_block_Child
  refine bxQ (Sep.start w) fun g w1 hs => ?_
  refine alloc_s hs (A_api_Block w1) fun g2 w2 hs2 => ?_
  simp only [L_api_Block (Sep.p1 hs2).blk, L_api_Block__Parent (Sep.p1 hs2).blk, L_api_Block__Height (Sep.p1 hs2).blk, L_api_Block__Data (Sep.p1 hs2).blk]
  refine cal_i (bkID_spec (hc.fr hs2.fr0) (hs2.rdB hb) hh) ?_
  rintro _ w3 ⟨rfl, hf3⟩
  have hs3 := hs2.old hf3
  simp only [fx, Nat.reduceAdd, forall_const]
  refine alloc_s hs3 (A_api_ID w3) fun g4 w4 hs4 => ?_
  refine St_api_ID hs4 fun w5 hs5 => ?_
  have bad : ¬ b.kidOk d → stN 34 (.pointer (some ⟨g2, 0, none⟩)) (bq Blk.none (.slice none 0 0)) w5 fun w => ldN 34 (.pointer (some ⟨g2, 0, none⟩)) w.heap fun r1 => R (.tuple #[r1, .int .i64 30]) w := fun hn => by
    rw [Blk.child, Blk.childE, if_neg hn, if_neg hn] at hR
    refine St_api_Block hs5.p1 (one_api_Block rfl) fun w6 hs6 => ?_
    simp only [L_api_Block hs6.blk, L_api_Block__Parent hs6.blk, L_api_Block__Height hs6.blk, L_api_Block__Data hs6.blk]
    exact hR _ _ ⟨_, rfl, hs6.tail.tail.tail.nil⟩
  rcases Blk.chk_or b with h0 | h0
  · have hck := Blk.chk_ok h0
    by_cases hm : b.h = maxI
    · have e : (b.h == 9223372036854775807) = true := by simpa using hm
      simp only [h0, e, fx, Nat.reduceAdd, forall_const, L_api_Block (Sep.p2 hs5).blk, L_api_Block__Parent (Sep.p2 hs5).blk, L_api_Block__Height (Sep.p2 hs5).blk, L_api_Block__Data (Sep.p2 hs5).blk, B_api_Block, show ((0 : Int) != 0) = false from rfl]
      exact bad fun hk => hk.2.1 hm
    · have e : (b.h == 9223372036854775807) = false := by simpa using hm
      have hn : b.name = b.id := by rw [Blk.name, if_pos h0]
      have hlt : b.h < 9223372036854775807 := by unfold maxI at hh hm; omega
      simp only [h0, e, fx, Nat.reduceAdd, forall_const, L_api_Block (Sep.p2 hs5).blk, L_api_Block__Parent (Sep.p2 hs5).blk, L_api_Block__Height (Sep.p2 hs5).blk, L_api_Block__Data (Sep.p2 hs5).blk, L_api_ID hs5.blk, show ((0 : Int) != 0) = false from rfl]
      rw [wi64 (by omega) (by omega), B_api_Block_0_1_2 hd.one, hn]
      have hkc := Blk.kid_chk (d := d) hck.1
      have ek : Value.agg (Rdr.cells Q_api_Block (b.id, b.h + 1, u)).toArray = bq (b.kid d) u := rfl
      have hkd : (b.kid d).d = d := rfl
      obtain ⟨k, hk⟩ : ∃ k, k = b.kid d := ⟨_, rfl⟩
      rw [ek, ← hk]
      rw [← hk] at hkc hkd
      refine cal_i (made_spec (b := k) (by rw [hkd]; exact hs5.rdB hd)) ?_
      rintro _ w6 ⟨v', rfl, hs6⟩
      replace hs6 := (hs5.join hs6).p2
      simp only [fx, Nat.reduceAdd, forall_const]
      refine St_api_Block hs6 (one_api_Block (Sep.one hs6.p1)) fun w7 hs7 => ?_
      simp only [L_api_Block hs7.blk, L_api_Block__Parent hs7.blk, L_api_Block__Height hs7.blk, L_api_Block__Data hs7.blk]
      refine hR _ _ ⟨v', ?_, ?_⟩
      · by_cases h2 : 200 < d.length
        · rw [if_pos h2] at hkc
          rw [Blk.mk', Blk.child, Blk.childE, if_neg (by omega), if_neg (fun hk => by have := hk.2.2; omega), if_neg (fun hk => by have := hk.2.2; omega), hkc]
        · rw [if_neg h2] at hkc
          rw [Blk.mk', Blk.child, Blk.childE, if_pos hkc, if_pos ⟨h0, hm, by omega⟩, if_pos ⟨h0, hm, by omega⟩, hk]
          rw [hk] at hkc
          rw [hkc]
      · have : k.mk' = b.child d := by
          by_cases h2 : 200 < d.length
          · rw [if_pos h2] at hkc
            rw [Blk.mk', Blk.child, if_neg (by omega), if_neg (fun hk => by have := hk.2.2; omega)]
          · rw [if_neg h2] at hkc
            rw [Blk.mk', Blk.child, if_pos hkc, if_pos ⟨h0, hm, by omega⟩, hk]
        rw [← this]
        exact hs7.p1.d1.d1.d1
  · simp only [h0, fx, Nat.reduceAdd, forall_const, B_api_Block, show ((30 : Int) != 0) = true from rfl]
    exact bad fun hk => by have := hk.1; omega
end
end Go.Fx
set_option linter.unusedVariables false
set_option linter.unusedSimpArgs false
namespace Go.Fx
def vec32 (l : List UInt8) : Vec 32 := ⟨(l ++ List.replicate 32 0).take 32, by simp⟩
def parB (l : List UInt8) : Blk := ⟨vec32 (l.drop 2), ofBe ((l.drop 34).take 8), l.drop 46⟩
def okP (l : List UInt8) : Prop := 46 ≤ l.length ∧ (parB l).h ≤ maxI ∧ (parB l).chk = 0 ∧ (parB l).bytes = l
instance (l : List UInt8) : Decidable (okP l) := by unfold okP; infer_instance
theorem okP.len {l : List UInt8} (h : okP l) : l.length ≤ 246 := by
  have := (Blk.chk_ok h.2.2.1).2.1
  have hb := congrArg List.length h.2.2.2
  rw [Blk.bytes_len] at hb
  omega
section
variable {w0 w : World} {As : List Asn} {g o n n' : Nat} {cur : Array Value} {T : TypeId} {x : Value} {m : List UInt8}
end
end Go.Fx
set_option linter.unusedVariables false
set_option linter.unusedSimpArgs false
namespace Go.Fx
end Go.Fx
set_option linter.unusedVariables false
set_option linter.unusedSimpArgs false
namespace Go.Fx
end Go.Fx
set_option linter.unusedVariables false
set_option linter.unusedSimpArgs false
namespace Go.Fx
abbrev BV := Blk × Value
def BV.t (x : BV) : Vec 32 × Int × Value := (x.1.p, x.1.h, x.2)
/-- A slice of blocks, each with what its data read as. -/
def BRows (h : Heap) (v : Value) (l : List BV) : Prop := Rows' Q_api_Block h v (l.map BV.t) ∧ ∀ x ∈ l, RdB h x.2 x.1.d
theorem BRows.fr {w w' : World} {v : Value} {l : List BV} (h : BRows w.heap v l) (hf : Fr [] w w') : BRows w'.heap v l := ⟨h.1.fr hf, fun x hx => (h.2 x hx).fr hf (off_nil _)⟩
theorem BRows.len {h : Heap} {v : Value} {l : List BV} (hr : BRows h v l) (K : Value → Prop) : lenS v K = K (.int .i64 l.length) := by
  have := hr.1.len K
  rwa [List.length_map] at this
section
variable {w0 w : World} {As : List Asn} {v : Value}
def ga : Blk := Blk.first [103]
/-- A block that is an argument. -/
abbrev ab (x : Vec 32 × Int × Sl UInt8) : Blk := ⟨x.1, x.2.1, x.2.2.l⟩
theorem ab_rd {h : Heap} {x : Vec 32 × Int × Sl UInt8} (hx : Rdr.ok R_api_Block h x) : RdB h x.2.2.v (ab x).d := hx.2.2.1
end
end Go.Fx
set_option linter.unusedVariables false
set_option linter.unusedSimpArgs false
namespace Go.Fx
/-- A block of a tree: its name, itself, where its data stand, when it came. -/
abbrev TN := Vec 32 × Blk × Value × Nat
def TN.ent (x : TN) : Ent 32 := (x.1, bq x.2.1 x.2.2.1, x.2.2.2)
/-- A tree's head. -/
structure Tr where
  root : Vec 32
  ht : Int
  most : Int
def nodeOf (k : Vec 32) (N : List TN) : Option TN := N.find? fun x => decide (k = x.1)
def blkOf (k : Vec 32) (N : List TN) : Option Blk := (nodeOf k N).map (·.2.1)
theorem getE_node (k : Vec 32) : ∀ N : List TN, getE k (N.map TN.ent) = (nodeOf k N).map fun x => bq x.2.1 x.2.2.1
  | [] => rfl
  | x :: N => by
    unfold getE nodeOf
    rw [List.map_cons, List.find?_cons, List.find?_cons]
    by_cases h : k = x.1
    · simp [h, TN.ent]
    · have e1 : decide (k = (TN.ent x).1) = false := decide_eq_false h
      have e2 : decide (k = x.1) = false := decide_eq_false h
      rw [e1, e2]
      exact getE_node k N
theorem KT : KeyT P T_api_ID T_uint8 32 := ⟨U_api_ID, U_uint8, by kernel_rfl, by kernel_rfl, EQ_api_ID⟩
theorem zB (w : World) : (zeroValue T_api_Block).run P w = .ok (bq Blk.none (.slice none 0 0)) w := by kernel_rfl
/-- A map's entries, in whatever order they came, are the blocks. -/
structure EOk (E : List (Ent 32)) (N : List TN) (c : Nat) : Prop where
  pm : (E.map (·.1)).Perm (N.map (·.1))
  nd : (E.map (·.1)).Nodup
  get : ∀ k, getE k E = getE k (N.map TN.ent)
  bn : (E.map (·.2.2)).Nodup
  lt : ∀ x ∈ E, x.2.2 < c
theorem EOk.nil (c : Nat) : EOk [] [] c := ⟨List.Perm.refl _, by simp, fun _ => rfl, by simp, fun x hx => by cases hx⟩
theorem EOk.len {E : List (Ent 32)} {N : List TN} {c : Nat} (h : EOk E N c) : E.length = N.length := by
  have := h.pm.length_eq
  simpa using this
/-- A map of blocks. -/
def mpN (gm : Nat) (N : List TN) (c : Nat) : Asn := Asn.ex fun E => (Asn.pr (EOk E N c)).star (mp gm E c)
theorem mpN_open {w0 w : World} {As : List Asn} {gm c : Nat} {N : List TN} (h : Sep w0 w (mpN gm N c :: As)) : ∃ E, EOk E N c ∧ Sep w0 w (mp gm E c :: As) := by
  unfold mpN at h
  rw [Sep_ex] at h
  obtain ⟨E, h⟩ := h
  rw [Sep_star, Sep_pr] at h
  exact ⟨E, h.1, h.2⟩
theorem mpN_close {w0 w : World} {As : List Asn} {gm c : Nat} {N : List TN} {E : List (Ent 32)} (hE : EOk E N c) (h : Sep w0 w (mp gm E c :: As)) : Sep w0 w (mpN gm N c :: As) := by
  unfold mpN
  rw [Sep_ex]
  exact ⟨E, by rw [Sep_star, Sep_pr]; exact ⟨hE, h⟩⟩
theorem getE_mem {n : Nat} {k : Vec n} {l : List (Ent n)} : (getE k l).isSome = true ↔ k ∈ l.map (·.1) := by
  unfold getE
  rw [Option.isSome_map, List.find?_isSome]
  constructor
  · rintro ⟨x, hx, h⟩
    have : k = x.1 := by simpa using h
    exact this ▸ List.mem_map_of_mem hx
  · intro h
    obtain ⟨x, hx, rfl⟩ := List.mem_map.1 h
    exact ⟨x, hx, by simp⟩
theorem getE_snoc {n : Nat} {k : Vec n} {H : List (Ent n)} {x : Ent n} : getE k (H ++ [x]) = (getE k H).or (if k = x.1 then some x.2.1 else none) := by
  unfold getE
  rw [List.find?_append]
  cases hf : List.find? (fun x => decide (k = x.1)) H with
  | some y => simp
  | none =>
    by_cases h : k = x.1 <;> simp [h]
theorem getE_filter {n : Nat} (p : Vec n → Bool) (k : Vec n) : ∀ l : List (Ent n), getE k (l.filter fun x => p x.1) = if p k = true then getE k l else none
  | [] => by simp [getE]
  | x :: N => by
    have ih := getE_filter p k N
    unfold getE at ih ⊢
    by_cases hk : k = x.1
    · subst hk
      by_cases hp : p x.1 = true
      · rw [List.filter_cons_of_pos (p := fun x : Ent n => p x.1) hp, if_pos hp]
        simp
      · rw [List.filter_cons_of_neg (p := fun x : Ent n => p x.1) hp, ih, if_neg hp, if_neg hp]
    · rw [List.find?_cons_of_neg (by simpa using hk), ← ih]
      by_cases hp : p x.1 = true
      · rw [List.filter_cons_of_pos (p := fun x : Ent n => p x.1) hp, List.find?_cons_of_neg (by simpa using hk)]
      · rw [List.filter_cons_of_neg (p := fun x : Ent n => p x.1) hp]
theorem getE_nin {n : Nat} {k : Vec n} {H : List (Ent n)} (h : k ∉ H.map (·.1)) : getE k H = none := by
  cases hg : getE k H with
  | none => rfl
  | some x => exact absurd (getE_mem.1 (by rw [hg]; rfl)) h
theorem EOk.add {E : List (Ent 32)} {N : List TN} {c c' : Nat} {k : Vec 32} {b : Blk} {v : Value} (h : EOk E N c) (hk : getE k (N.map TN.ent) = none) : EOk (E ++ [(k, bq b v, c)]) (N ++ [(k, b, v, c')]) (c + 1) := by
  have hkE : k ∉ E.map (·.1) := fun hm => by
    have := getE_mem.2 hm
    rw [h.get, hk] at this
    cases this
  refine ⟨?_, ?_, fun k' => ?_, ?_, fun x hx => ?_⟩
  · rw [List.map_append, List.map_append]
    exact h.pm.append_right _
  · rw [List.map_append, List.nodup_append]
    refine ⟨h.nd, by simp, fun x hx y hy he => ?_⟩
    simp only [List.map_cons, List.map_nil, List.mem_singleton] at hy
    subst hy
    exact hkE (he ▸ hx)
  · rw [List.map_append, List.map_singleton, getE_snoc, getE_snoc, h.get]
    rfl
  · rw [List.map_append, List.nodup_append]
    refine ⟨h.bn, by simp, fun x hx y hy he => ?_⟩
    simp only [List.map_cons, List.map_nil, List.mem_singleton] at hy
    subst hy
    obtain ⟨z, hz, rfl⟩ := List.mem_map.1 hx
    have := h.lt z hz
    omega
  · rcases List.mem_append.1 hx with hx | hx
    · have := h.lt x hx; omega
    · obtain rfl : x = (k, bq b v, c) := by simpa using hx
      show c < c + 1
      omega
theorem EOk.filter {E : List (Ent 32)} {N : List TN} {c : Nat} (p : Vec 32 → Bool) (h : EOk E N c) : EOk (E.filter fun x => p x.1) (N.filter fun x => p x.1) c := by
  have e1 : (E.filter fun x => p x.1).map (·.1) = (E.map (·.1)).filter p := by rw [List.filter_map]; rfl
  have e2 : (N.filter fun x => p x.1).map (·.1) = (N.map (·.1)).filter p := by rw [List.filter_map]; rfl
  have e3 : (N.filter fun x => p x.1).map TN.ent = (N.map TN.ent).filter fun x => p x.1 := by rw [List.filter_map]; rfl
  refine ⟨by rw [e1, e2]; exact h.pm.filter p, by rw [e1]; exact h.nd.sublist List.filter_sublist, fun k => ?_, h.bn.sublist (List.filter_sublist.map _), fun x hx => h.lt x (List.mem_filter.1 hx).1⟩
  rw [getE_filter, e3, getE_filter, h.get]
abbrev tq (t : Tr) (gm : Nat) (ov : Value) : Bool × Vec 32 × Int × Int × Value × Value := (true, t.root, t.ht, t.most, .map (some gm), ov)
structure TrR (h : Heap) (g gm : Nat) (ov : Value) (t : Tr) (N : List TN) (c : Nat) : Prop where
  cell : ∃ T fr, h[g]? = some (.cells (Rdr.cells Q_tree_Tree (tq t gm ov)).toArray T fr)
  map : ∃ E, EOk E N c ∧ h[gm]? = some (.map (ents E) c)
  ord : Rows' (rVec 32) h ov (N.map (·.1))
  dat : ∀ x ∈ N, RdB h x.2.2.1 x.2.1.d
section
variable {w0 w w' : World} {As : List Asn} {g gm c : Nat} {ov : Value} {t : Tr} {N : List TN}
theorem TrR.fr (h : TrR w.heap g gm ov t N c) (hf : Fr [] w w') : TrR w'.heap g gm ov t N c := by
  obtain ⟨T, fr, hc⟩ := h.cell
  obtain ⟨E, hE, hm⟩ := h.map
  exact ⟨⟨T, fr, hf.blk hc (by simp)⟩, ⟨E, hE, hf.blk hm (by simp)⟩, h.ord.fr hf, fun x hx => (h.dat x hx).fr hf (off_nil _)⟩
theorem TrR.look (hr : TrR w.heap g gm ov t N c) (k : Vec 32) (K : Value → Prop) : rdP P (Instr.lookup T_map_api_ID_api_Block (.map (some gm)) (kv k) true) w K =
    K (.tuple #[(getE k (N.map TN.ent)).getD (bq Blk.none (.slice none 0 0)), .bool (getE k (N.map TN.ent)).isSome]) := by
  obtain ⟨E, hE, hm⟩ := hr.map
  rw [lookup_map U_map_api_ID_api_Block KT (zB w) hm k, hE.get]
theorem TrR.look1 (hr : TrR w.heap g gm ov t N c) (k : Vec 32) (K : Value → Prop) : rdP P (Instr.lookup T_map_api_ID_api_Block (.map (some gm)) (kv k) false) w K =
    K ((getE k (N.map TN.ent)).getD (bq Blk.none (.slice none 0 0))) := by
  obtain ⟨E, hE, hm⟩ := hr.map
  rw [lookup_map1 U_map_api_ID_api_Block KT (zB w) hm k, hE.get]
theorem TrR.mlen {ty : TypeId} (hr : TrR w.heap g gm ov t N c) (hl : N.length ≤ 9223372036854775807) (K : Value → Prop) : rdP P (Builtin.len_ #[T_map_api_ID_api_Block] ty #[.map (some gm)]) w K = K (.int .i64 N.length) := by
  obtain ⟨E, hE, hm⟩ := hr.map
  rw [len_map U_map_api_ID_api_Block hm (by rw [hE.len]; exact hl), hE.len]
theorem Sep.tr (h : Sep w0 w As) (hr : TrR w0.heap g gm ov t N c) : TrR w.heap g gm ov t N c := hr.fr h.1
theorem tnone_spec (hr : TrR w.heap g gm ov t N c) : cal P f_tree_Tree_none [.pointer (some ⟨g, 0, none⟩)] w fun r w' => r = .bool false ∧ w = w' := by
  refine s_tree_Tree_none fun R hR => ?_
  unfold c_tree_Tree_none
  obtain ⟨T, fr, hc⟩ := hr.cell
  simp only [fx, Nat.reduceAdd, forall_const, Option.isNone_some, L_tree_Tree hc, L_tree_Tree__made hc, L_tree_Tree__root hc, L_tree_Tree__height hc, L_tree_Tree__most hc, L_tree_Tree__blocks hc, L_tree_Tree__order hc]
  exact hR _ _ ⟨rfl, rfl⟩
/-- What a lookup of a name gives. -/
def nb (k : Vec 32) (N : List TN) : Blk × Value := ((nodeOf k N).map fun x => (x.2.1, x.2.2.1)).getD (Blk.none, .slice none 0 0)
theorem nb_get (k : Vec 32) (N : List TN) : (getE k (N.map TN.ent)).getD (bq Blk.none (.slice none 0 0)) = bq (nb k N).1 (nb k N).2 := by
  rw [getE_node]
  unfold nb
  cases nodeOf k N <;> rfl
theorem nb_is (k : Vec 32) (N : List TN) : (getE k (N.map TN.ent)).isSome = (blkOf k N).isSome := by
  rw [getE_node]
  unfold blkOf
  cases nodeOf k N <;> rfl
theorem nb_rd (hr : TrR w.heap g gm ov t N c) (k : Vec 32) : RdB w.heap (nb k N).2 (nb k N).1.d := by
  unfold nb
  cases h : nodeOf k N with
  | none => exact rdNil w
  | some x => exact hr.dat x (List.mem_of_find?_eq_some h)
theorem nb_blk {k : Vec 32} {N : List TN} : (blkOf k N = none ∧ (nb k N).1 = Blk.none) ∨ blkOf k N = some (nb k N).1 := by
  unfold nb blkOf
  cases nodeOf k N with
  | none => exact .inl ⟨rfl, rfl⟩
  | some x => exact .inr rfl
/-- How high a name stands; whether it is there. -/
def levH (t : Tr) (N : List TN) (k : Vec 32) : Int := if k = t.root then t.ht else match blkOf k N with
  | some b => b.h
  | none => 0
def has (t : Tr) (N : List TN) (k : Vec 32) : Bool := decide (k = t.root) || (blkOf k N).isSome
theorem level_spec (hr : TrR w.heap g gm ov t N c) (k : Vec 32) : cal P f_tree_Tree_level [.pointer (some ⟨g, 0, none⟩), kv k] w fun r w' => r = .tuple #[.int .i64 (levH t N k), .bool (has t N k)] ∧ Fr [] w w' := by
  refine s_tree_Tree_level fun R hR => ?_
  unfold c_tree_Tree_level
  refine bxQ (Sep.start w) fun g3 w1 hs1 => ?_
  refine cal_i (tnone_spec (hs1.tr hr)) ?_
  rintro _ _ ⟨rfl, rfl⟩
  simp only [fx, Nat.reduceAdd, forall_const]
  refine drw_s hs1 fun w2 hs2 _ => ?_
  obtain ⟨T, fr, hc⟩ := (hs2.tr hr).cell
  simp only [fx, Nat.reduceAdd, forall_const, L_api_ID hs2.blk, L_tree_Tree hc, L_tree_Tree__made hc, L_tree_Tree__root hc, L_tree_Tree__height hc, L_tree_Tree__most hc, L_tree_Tree__blocks hc, L_tree_Tree__order hc, eq_api_ID]
  rw [cnd_bool]
  refine ⟨fun h => ?_, fun h => ?_⟩
  · have h : k = t.root := by simpa using h
    refine hR _ _ ⟨?_, hs2.fr0⟩
    unfold levH has
    rw [if_pos h, decide_eq_true h]
    rfl
  · have h : ¬ k = t.root := by simpa using h
    refine drH_S hs2 fun w3 hs3 _ => ?_
    refine rdS_ld (v := .map (some gm)) (fun u hu K hk => by
      obtain ⟨T, fr, hc⟩ := (hu.tr hr).cell
      exact (L_tree_Tree__blocks hc K).mpr hk) ?_
    refine ⟨kv k, fun u hu => (L_api_ID hu.blk _).mpr rfl, ?_⟩
    refine ⟨.tuple #[(getE k (N.map TN.ent)).getD (bq Blk.none (.slice none 0 0)), .bool (getE k (N.map TN.ent)).isSome], fun u hu => ((hu.tr hr).look k _).mpr rfl, ?_⟩
    rw [nb_get, nb_is]
    simp only [fx, Nat.reduceAdd, forall_const]
    refine efS_i (alloc_s hs3 (A_api_Block w3) fun g4 w4 hs4 => ⟨hs4.tail, ?_⟩)
    refine efC_stN (St_api_Block hs4 (one_api_Block (nb_rd (hs4.tr hr) k).one) fun w5 hs5 => ?_)
    simp only [fx, Nat.reduceAdd, forall_const, L_api_Block hs5.blk, L_api_Block__Parent hs5.blk, L_api_Block__Height hs5.blk, L_api_Block__Data hs5.blk]
    refine hR _ _ ⟨?_, hs5.fr0⟩
    unfold levH has
    rw [if_neg h, decide_eq_false h, Bool.false_or]
    rcases nb_blk (k := k) (N := N) with ⟨h1, h2⟩ | h1
    · rw [h1, h2]; rfl
    · rw [h1]
theorem Has_spec (hr : TrR w.heap g gm ov t N c) (k : Vec 32) : cal P f_tree_Tree_Has [.pointer (some ⟨g, 0, none⟩), kv k] w fun r w' => r = .bool (has t N k) ∧ Fr [] w w' := by
  refine s_tree_Tree_Has fun R hR => ?_
  unfold c_tree_Tree_Has
  refine bxQ (Sep.start w) fun g3 w1 hs1 => ?_
  simp only [L_api_ID hs1.blk]
  refine cal_i (level_spec (hs1.tr hr) k) ?_
  rintro _ w2 ⟨rfl, hf2⟩
  simp only [fx, Nat.reduceAdd, forall_const]
  exact hR _ _ ⟨rfl, (hs1.old hf2).fr0⟩
theorem Root_spec (hr : TrR w.heap g gm ov t N c) : cal P f_tree_Tree_Root [.pointer (some ⟨g, 0, none⟩)] w fun r w' => r = .tuple #[kv t.root, .int .i64 t.ht] ∧ Fr [] w w' := by
  refine s_tree_Tree_Root fun R hR => ?_
  unfold c_tree_Tree_Root
  refine alloc_s (Sep.start w) (A_api_ID w) fun g3 w1 hs1 => ?_
  refine cal_i (tnone_spec (hs1.tr hr)) ?_
  rintro _ _ ⟨rfl, rfl⟩
  simp only [fx, Nat.reduceAdd, forall_const]
  refine ⟨fun u => ∃ v, Sep w u [blk g3 (Rdr.cells (rVec 32) v).toArray T_api_ID], ⟨_, hs1.drew _⟩, ?_⟩
  refine ⟨kv t.root, fun u ⟨v, hu⟩ => by
    obtain ⟨T, fr, hc⟩ := (hu.tr hr).cell
    exact (L_tree_Tree__root hc _).mpr rfl, ?_⟩
  refine rdS_ld (v := .int .i64 t.ht) (fun u ⟨v, hu⟩ K hk => by
    obtain ⟨T, fr, hc⟩ := (hu.tr hr).cell
    exact (L_tree_Tree__height hc K).mpr hk) ?_
  refine efS_i (St_api_ID (hs1.drew _) fun w3 hs3 => ⟨⟨_, hs3⟩, ?_⟩)
  simp only [L_api_ID hs3.blk]
  exact hR _ _ ⟨rfl, hs3.fr0⟩
end
end Go.Fx
set_option linter.unusedVariables false
set_option linter.unusedSimpArgs false
namespace Go.Fx
/-- Each block's parent is there, one lower; no name twice. -/
structure TrW (t : Tr) (N : List TN) : Prop where
  up : ∀ k b, blkOf k N = some b → has t N b.p = true ∧ b.h = levH t N b.p + 1
  above : ∀ k b, blkOf k N = some b → t.ht < b.h
  noroot : blkOf t.root N = none
  small : ∀ x ∈ N, x.2.1.d.length ≤ 200
/-- The next name up. -/
def upOf (k : Vec 32) (N : List TN) : Vec 32 := (nb k N).1.p
/-- The way up: no more steps than the height tells. -/
def wayUp (t : Tr) (N : List TN) : Nat → Vec 32 → List (Vec 32)
  | 0, _ => []
  | n + 1, k => if k = t.root then [] else k :: wayUp t N n (upOf k N)
def hgt (t : Tr) (N : List TN) (k : Vec 32) : Nat := (levH t N k - t.ht).toNat
theorem has_blk {t : Tr} {N : List TN} {k : Vec 32} (h : has t N k = true) (hk : k ≠ t.root) : blkOf k N = some (nb k N).1 := by
  unfold has at h
  rw [decide_eq_false hk, Bool.false_or] at h
  rcases nb_blk (k := k) (N := N) with ⟨h1, _⟩ | h1
  · rw [h1] at h; cases h
  · exact h1
theorem up_has {t : Tr} {N : List TN} {k : Vec 32} (hw : TrW t N) (h : has t N k = true) (hk : k ≠ t.root) : has t N (upOf k N) = true ∧ hgt t N k = hgt t N (upOf k N) + 1 := by
  have hb := has_blk h hk
  obtain ⟨h1, h2⟩ := hw.up k _ hb
  have h3 := hw.above k _ hb
  refine ⟨h1, ?_⟩
  have e : levH t N k = (nb k N).1.h := by
    unfold levH
    rw [if_neg hk, hb]
  have h4 : t.ht ≤ levH t N (upOf k N) := by
    by_cases hr : upOf k N = t.root
    · unfold levH; rw [if_pos hr]; omega
    · have hb2 := has_blk (show has t N (upOf k N) = true from h1) hr
      have := hw.above _ _ hb2
      unfold levH
      rw [if_neg hr, hb2]
      simp only
      omega
  unfold hgt
  rw [e, h2]
  show (levH t N (upOf k N) + 1 - t.ht).toNat = _
  omega
section
variable {w0 w w' : World} {As : List Asn} {g gm c : Nat} {ov : Value} {t : Tr} {N : List TN}
theorem Len_spec (hr : TrR w.heap g gm ov t N c) (hl : N.length ≤ 1000000) : cal P f_tree_Tree_Len [.pointer (some ⟨g, 0, none⟩)] w fun r w' => r = .int .i64 N.length ∧ w = w' := by
  refine s_tree_Tree_Len fun R hR => ?_
  unfold c_tree_Tree_Len
  refine cal_i (tnone_spec hr) ?_
  rintro _ _ ⟨rfl, rfl⟩
  obtain ⟨T, fr, hc⟩ := hr.cell
  simp only [fx, Nat.reduceAdd, forall_const, L_tree_Tree hc, L_tree_Tree__made hc, L_tree_Tree__root hc, L_tree_Tree__height hc, L_tree_Tree__most hc, L_tree_Tree__blocks hc, L_tree_Tree__order hc]
  rw [hr.mlen (by omega)]
  exact hR _ _ ⟨rfl, rfl⟩
theorem bvs_inj : ∀ {a b : List UInt8}, bvs a = bvs b → a = b
  | [], [], _ => rfl
  | [], _ :: _, h => by simp [bvs] at h
  | _ :: _, [], h => by simp [bvs] at h
  | x :: a, y :: b, h => by
    simp only [bvs, List.map_cons, List.cons.injEq, bv, Value.int.injEq, true_and] at h
    have hx : x = y := UInt8.toNat_inj.1 (by have := h.1; omega)
    rw [hx, bvs_inj (a := a) (b := b) h.2]
/-- The name that a block of memory holds. -/
noncomputable def keyAt (g : Nat) (z : World) : Vec 32 :=
  open Classical in if h : ∃ k : Vec 32, z.heap[g]? = some (.cells (Rdr.cells (rVec 32) k).toArray T_api_ID (0, 0)) then Classical.choose h else vz 32
theorem keyAt_eq {g : Nat} {z : World} {k : Vec 32} (h : z.heap[g]? = some (.cells (Rdr.cells (rVec 32) k).toArray T_api_ID (0, 0))) : keyAt g z = k := by
  have hx : ∃ k : Vec 32, z.heap[g]? = some (.cells (Rdr.cells (rVec 32) k).toArray T_api_ID (0, 0)) := ⟨k, h⟩
  unfold keyAt
  rw [dif_pos hx]
  have h2 := Classical.choose_spec hx
  generalize Classical.choose hx = k' at h2 ⊢
  rw [h] at h2
  simp only [Option.some.injEq, Obj.cells.injEq, and_true] at h2
  have h3 : bvs k.1 = bvs k'.1 := by
    have h4 : (Rdr.cells (rVec 32) k) = Rdr.cells (rVec 32) k' := by
      have := congrArg Array.toList h2
      simpa using this
    exact h4
  exact (Subtype.ext (bvs_inj h3)).symm
/-- On the way up from a name stands another one. -/
def under (t : Tr) (N : List TN) (a b : Vec 32) : Bool := has t N a && (has t N b && (decide (b = t.root) || decide (b ∈ wayUp t N (hgt t N a) a)))
theorem wayUp_root (t : Tr) (N : List TN) (n : Nat) : wayUp t N n t.root = [] := by
  cases n <;> simp [wayUp]
theorem wayUp_step {k : Vec 32} (hw : TrW t N) (h : has t N k = true) (hk : k ≠ t.root) : wayUp t N (hgt t N k) k = k :: wayUp t N (hgt t N (upOf k N)) (upOf k N) := by
  obtain ⟨h1, h2⟩ := up_has hw h hk
  rw [h2, wayUp, if_neg hk]
theorem Within_spec (hr : TrR w.heap g gm ov t N c) (hw : TrW t N) (a b : Vec 32) : cal P f_tree_Tree_Within [.pointer (some ⟨g, 0, none⟩), kv a, kv b] w fun r w' => r = .bool (under t N a b) ∧ Fr [] w w' := by
  refine s_tree_Tree_Within fun R hR => ?_
  unfold c_tree_Tree_Within
  refine bxQ (Sep.start w) fun g3 w1 hs1 => ?_
  refine bxQ hs1 fun g4 w2 hs2 => ?_
  simp only [L_api_ID (Sep.p1 hs2).blk]
  refine cal_i (Has_spec (hs2.tr hr) a) ?_
  rintro _ w3 ⟨rfl, hf3⟩
  have hs3 := hs2.old hf3
  by_cases ha : has t N a = true
  case neg =>
    have ha : has t N a = false := by simpa using ha
    simp only [ha, fx, Nat.reduceAdd, forall_const, Bool.not_false]
    exact hR _ _ ⟨by unfold under; rw [ha]; rfl, hs3.fr0⟩
  simp only [ha, fx, Nat.reduceAdd, forall_const, Bool.not_true, L_api_ID hs3.blk]
  refine jn1_dup ?_
  refine cal_i (Has_spec (hs3.tr hr) b) ?_
  rintro _ w4 ⟨rfl, hf4⟩
  have hs4 := hs3.old hf4
  by_cases hb : has t N b = true
  case neg =>
    have hb : has t N b = false := by simpa using hb
    simp only [hb, fx, Nat.reduceAdd, forall_const, Bool.not_false]
    exact hR _ _ ⟨by unfold under; rw [hb, Bool.false_and, Bool.and_false], hs4.fr0⟩
  simp only [hb, fx, Nat.reduceAdd, forall_const, Bool.not_true]
  refine ⟨fun z => ∃ k, has t N k = true ∧ under t N a b = under t N k b ∧ Sep w z [blk g4 (Rdr.cells (rVec 32) b).toArray T_api_ID, blk g3 (Rdr.cells (rVec 32) k).toArray T_api_ID], fun z => hgt t N (keyAt g3 z), ⟨a, ha, rfl, hs4⟩, ?_⟩
  rintro w5 ⟨k, hk, hu, hs5⟩ -
  refine drw_s hs5 fun w6 hs6 hw6 => ?_
  obtain ⟨T, fr, hc⟩ := (hs6.tr hr).cell
  simp only [L_api_ID hs6.blk, L_api_ID (Sep.p1 hs6).blk, ne_api_ID, L_tree_Tree hc, L_tree_Tree__made hc, L_tree_Tree__root hc, L_tree_Tree__height hc, L_tree_Tree__most hc, L_tree_Tree__blocks hc, L_tree_Tree__order hc, fx, Nat.reduceAdd, forall_const]
  have fin : (k = b ∨ k = t.root) → R (.bool (decide (k = b))) w6 := fun he => by
    refine hR _ _ ⟨?_, hs6.fr0⟩
    rw [hu]
    congr 1
    unfold under
    rw [hk, hb, Bool.true_and, Bool.true_and]
    by_cases hkb : k = b
    · subst hkb
      rw [decide_eq_true rfl]
      by_cases hkr : k = t.root
      · rw [decide_eq_true hkr]; rfl
      · rw [wayUp_step hw hk hkr]; simp
    · have hkr : k = t.root := he.resolve_left hkb
      rw [decide_eq_false hkb, hkr, wayUp_root]
      have : ¬ b = t.root := fun hbr => hkb (by rw [hkr, hbr])
      simp [this]
  rw [cnd_bool]
  refine ⟨fun h => ?_, fun h => ?_⟩
  · have h1 : ¬ k = b ∧ ¬ k = t.root := by simpa using h
    obtain ⟨h2, h3⟩ := up_has hw hk h1.2
    refine drH_S hs6 fun w7 hs7 hw7 => ?_
    refine rdS_ld (v := .map (some gm)) (fun u hu K hk => by
      obtain ⟨T, fr, hc⟩ := (hu.tr hr).cell
      exact (L_tree_Tree__blocks hc K).mpr hk) ?_
    refine ⟨kv k, fun u hu => (L_api_ID (Sep.p1 hu).blk _).mpr rfl, ?_⟩
    refine ⟨(getE k (N.map TN.ent)).getD (bq Blk.none (.slice none 0 0)), fun u hu => ((hu.tr hr).look1 k _).mpr rfl, ?_⟩
    rw [nb_get]
    have e : ∀ K, fldv 0 32 true (bq (nb k N).1 (nb k N).2) K = K (kv (upOf k N)) := fun K => by
      have hl : (bvs (nb k N).1.p.1).length = 32 := by rw [bvs_length]; exact (nb k N).1.p.2
      have ex : (Rdr.cells Q_api_Block ((nb k N).1.p, (nb k N).1.h, (nb k N).2)).toArray.extract 0 (0 + 32) = (bvs (nb k N).1.p.1).toArray := by
        apply Array.ext'
        show ((bvs (nb k N).1.p.1 ++ ([Value.int .i64 (nb k N).1.h] ++ [(nb k N).2])).toArray.extract 0 (0 + 32)).toList = _
        simp only [List.extract_toArray, List.drop_zero]
        simp [List.extract, hl]
      refine propext ⟨?_, fun hk => ⟨_, rfl, ?_, ?_⟩⟩
      · rintro ⟨cs, hcs, h⟩
        cases hcs
        have h2 := h.2
        rw [ex] at h2
        exact h2
      · show 0 + 32 ≤ (bvs (nb k N).1.p.1 ++ ([Value.int .i64 (nb k N).1.h] ++ [(nb k N).2])).toArray.size
        simp [hl]
      · rw [ex]
        exact hk
    change fldv _ _ _ _ _
    rw [e]
    refine efC_stN (St_api_ID hs7.p1 fun w8 hs8 => ?_)
    refine ⟨⟨upOf k N, h2, ?_, hs8.p1⟩, ?_⟩
    · rw [hu]
      unfold under
      rw [hk, h2, wayUp_step hw hk h1.2]
      have : ¬ b = k := fun hbk => h1.1 hbk.symm
      simp [this]
    · rw [keyAt_eq hs8.blk, keyAt_eq (Sep.p1 hs5).blk]
      omega
  · have h1 : k = b ∨ k = t.root := by
      rcases Decidable.em (k = b) with hh | hh
      · exact .inl hh
      · refine .inr (Decidable.byContradiction fun hr' => ?_)
        simp [hh, hr'] at h
    simp only [eq_api_ID, L_api_ID hs6.blk, L_api_ID (Sep.p1 hs6).blk]
    exact fin h1
end
end Go.Fx
set_option linter.unusedVariables false
set_option linter.unusedSimpArgs false
namespace Go.Fx
section
variable {w0 w w' : World} {As : List Asn} {α : Type} {q : Rdr α}
end
end Go.Fx
set_option linter.unusedVariables false
set_option linter.unusedSimpArgs false
namespace Go.Fx
def pathOf (t : Tr) (N : List TN) (k : Vec 32) : List (Vec 32) := if has t N k then (wayUp t N (hgt t N k) k).reverse else []
theorem fldv_par (b : Blk) (v : Value) (K : Value → Prop) : fldv 0 32 true (bq b v) K = K (kv b.p) := by
  have hl : (bvs b.p.1).length = 32 := by rw [bvs_length]; exact b.p.2
  have ex : (Rdr.cells Q_api_Block (b.p, b.h, v)).toArray.extract 0 (0 + 32) = (bvs b.p.1).toArray := by
    apply Array.ext'
    show ((bvs b.p.1 ++ ([Value.int .i64 b.h] ++ [v])).toArray.extract 0 (0 + 32)).toList = _
    simp only [List.extract_toArray, List.drop_zero]
    simp [List.extract, hl]
  refine propext ⟨?_, fun hk => ⟨_, rfl, ?_, ?_⟩⟩
  · rintro ⟨cs, hcs, h⟩
    cases hcs
    have h2 := h.2
    rw [ex] at h2
    exact h2
  · show 0 + 32 ≤ (bvs b.p.1 ++ ([Value.int .i64 b.h] ++ [v])).toArray.size
    simp [hl]
  · rw [ex]
    exact hk
section
variable {w0 w w' : World} {As : List Asn} {g gm c : Nat} {ov : Value} {t : Tr} {N : List TN}
end
end Go.Fx
set_option linter.unusedVariables false
set_option linter.unusedSimpArgs false
namespace Go.Fx
theorem filter_opt {α : Type} (so : α → Bool) (k : α) : List.filter so (some k).toList = if so k = true then [k] else [] := by
  cases h : so k <;> simp [h]
section
variable {w0 w w' : World} {As : List Asn} {g gm c : Nat} {ov : Value} {t : Tr} {N : List TN}
theorem calV_mk {f : FuncId} {cap args : List Value} {K : Value → World → Prop} (hc : callable P f = true) (h : cal P f (args ++ cap) w K) : calV P (.func (.func f) #[] cap.toArray) args w K :=
  ⟨f, #[], cap.toArray, rfl, hc, by simpa [cal] using h⟩
theorem those_spec {f : FuncId} {cap : List Value} {so : Vec 32 → Bool} (hr : TrR w.heap g gm ov t N c) (hn : N.length ≤ 1000000) (hc : callable P f = true)
    (hso : ∀ (z : World) (k : Vec 32), Fr [] w z → cal P f ([kv k] ++ cap) z fun r w' => r = .bool (so k) ∧ Fr [] z w') :
    cal P f_tree_Tree_those [.pointer (some ⟨g, 0, none⟩), .func (.func f) #[] cap.toArray] w fun r w' => Sep w w' [rows (rVec 32) r ((N.map (·.1)).filter so)] := by
  refine s_tree_Tree_those fun R hR => ?_
  unfold c_tree_Tree_those
  refine cal_i (tnone_spec hr) ?_
  rintro _ _ ⟨rfl, rfl⟩
  obtain ⟨T, fr, hcl⟩ := hr.cell
  have hl : ∀ K, lenS ov K = K (.int .i64 N.length) := fun K => by
    have := hr.ord.len K
    rwa [List.length_map] at this
  simp only [fx, Nat.reduceAdd, forall_const, L_tree_Tree hcl, L_tree_Tree__made hcl, L_tree_Tree__root hcl, L_tree_Tree__height hcl, L_tree_Tree__most hcl, L_tree_Tree__blocks hcl, L_tree_Tree__order hcl, hl]
  refine ⟨fun x y z => ∃ i : Nat, y = .int .i64 i ∧ i ≤ N.length ∧ Sep w z [rows (rVec 32) x (((N.map (·.1)).take i).filter so)], fun _ y _ => (N.length - RowKit.intOf y).toNat, ⟨0, rfl, by omega, (Sep.start w).nilR⟩, ?_⟩
  rintro x _ w1 ⟨i, rfl, hi, hs1⟩ -
  simp only [fx, Nat.reduceAdd, forall_const]
  rw [cnd_bool]
  refine ⟨fun h => ?_, fun h => ?_⟩
  · have hlt : i < N.length := by simp at h; omega
    obtain ⟨Ks, hKs⟩ : ∃ Ks : List (Vec 32), Ks = N.map (·.1) := ⟨_, rfl⟩
    have hKl : Ks.length = N.length := by rw [hKs, List.length_map]
    rw [← hKs] at hs1 ⊢
    have hord := hr.ord
    rw [← hKs] at hord
    obtain ⟨k, hx⟩ : ∃ k, Ks[i]? = some k := ⟨_, List.getElem?_eq_getElem (by omega)⟩
    clear hKs
    have ht : (Ks.take (i + 1)).filter so = (Ks.take i).filter so ++ (if so k then [k] else []) := by
      rw [List.take_add_one, hx, List.filter_append, filter_opt]
    have hfl : ((Ks.take i).filter so).length ≤ i := by
      have h1 := List.length_filter_le so (Ks.take i)
      have h2 : (Ks.take i).length ≤ i := List.length_take_le _ _
      omega
    refine ⟨fun v z => Sep w z [rows (rVec 32) v ((Ks.take (i + 1)).filter so)], ?_, ?_⟩
    · change ixs 32 _ _ _
      refine Rows'.ldN (q := rVec 32) (by decide) (hord.fr hs1.fr0) hx .i64 ?_
      refine alloc_s hs1 (A_api_ID w1) fun g7 w2 hs2 => ?_
      refine St_api_ID (b := k) hs2 fun w3 hs3 => ?_
      simp only [L_api_ID hs3.blk]
      refine calV_mk hc (cal_i (hso w3 k hs3.fr0) ?_)
      rintro _ w4 ⟨rfl, hf4⟩
      have hs4 := hs3.old hf4
      rw [cnd_bool]
      refine ⟨fun hk => ?_, fun hk => ?_⟩
      · simp only [L_api_ID hs4.blk]
        refine rows_lit hs4 S_sl_api_ID (l := [k]) (V := fun a => .agg (Rdr.cells (rVec 32) a).toArray) (fun a => rfl) rfl rfl (by decide) (by decide) fun g8 w5 hs5 => ?_
        refine rows_app S_sl_api_ID U_sl_api_ID (by simp) hs5.p2 (Sep.rows hs5) ?_ (by simp; omega) (by simp; omega) fun v8 w8 hs8 => ?_
        · simp only [List.flatMap_cons, List.flatMap_nil, List.append_nil]
          exact oneVec
        rw [ht, hk, if_pos rfl]
        exact Sep.dropR (As := [rows (rVec 32) v8 _]) hs8
      · rw [ht, hk]
        simpa using hs4.tail
    · rintro v w2 hs2 _
      rw [wi64 (by omega) (by omega)]
      exact ⟨⟨i + 1, by simp, by omega, hs2⟩, by simp [RowKit.intOf]; omega⟩
  · have hge : i = N.length := by simp at h; omega
    subst hge
    rw [List.take_of_length_le (by simp)] at hs1
    exact hR _ _ hs1
end
end Go.Fx
set_option linter.unusedVariables false
set_option linter.unusedSimpArgs false
namespace Go.Fx
/-- A tree that the call owns. -/
def trL (g gm : Nat) (ov : Value) (t : Tr) (N : List TN) (c : Nat) : List Asn :=
  blk g (Rdr.cells Q_tree_Tree (tq t gm ov)).toArray T_tree_Tree :: mpN gm N c :: rows (rVec 32) ov (N.map (·.1)) :: N.map fun x => ownB x.2.2.1 x.2.1.d
section
variable {w0 w w' : World} {As : List Asn} {g gm c : Nat} {ov : Value} {t : Tr} {N : List TN}
theorem TrW.nil (t : Tr) : TrW t [] := ⟨fun k b h => by simp [blkOf, nodeOf] at h, fun k b h => by simp [blkOf, nodeOf] at h, rfl, fun x hx => by cases hx⟩
theorem tNew_spec (r : Vec 32) (h m : Int) : cal P f_tree_New [kv r, .int .i64 h, .int .i64 m] w fun v w' => (¬ (0 ≤ h ∧ 1 ≤ m ∧ m ≤ 256) ∧ v = .tuple #[.pointer none, .int .i64 1] ∧ Fr [] w w') ∨
    ((0 ≤ h ∧ 1 ≤ m ∧ m ≤ 256) ∧ ∃ g gm, v = .tuple #[.pointer (some ⟨g, 0, none⟩), .int .i64 0] ∧ Sep w w' (trL g gm (.slice none 0 0) ⟨r, h, m⟩ [] 0)) := by
  refine s_tree_New fun R hR => ?_
  unfold c_tree_New
  refine bxQ (Sep.start w) fun g1 w1 hs1 => ?_
  simp only [fx, Nat.reduceAdd, forall_const]
  rw [cnd_bool]
  refine ⟨fun hc => ?_, fun hc => ?_⟩
  · simp only [Bool.or_eq_true, decide_eq_true_eq] at hc
    exact hR _ _ (.inl ⟨by omega, rfl, hs1.fr0⟩)
  · simp only [Bool.or_eq_false_iff, decide_eq_false_iff_not] at hc
    simp only [L_api_ID hs1.blk]
    refine makeMap_s (n := 32) hs1 fun gm w2 hs2 => ?_
    rw [B_tree_Tree_0_1_2_3_4 rfl]
    refine bxQ hs2 fun g3 w3 hs3 => ?_
    refine hR _ _ (.inr ⟨by omega, g3, gm, rfl, ?_⟩)
    have h4 := mpN_close (EOk.nil 0) (Sep.p2 (hs3.nilR (q := rVec 32)))
    exact Sep.dropR (As := trL g3 gm (.slice none 0 0) ⟨r, h, m⟩ [] 0) (Sep.pick h4 [2, 0, 1] 4)
end
end Go.Fx
set_option linter.unusedVariables false
set_option linter.unusedSimpArgs false
namespace Go.Fx
section
variable {w0 w w' : World} {As : List Asn} {g gm c : Nat} {ov : Value} {t : Tr} {N : List TN}
end
end Go.Fx
set_option linter.unusedVariables false
set_option linter.unusedSimpArgs false
namespace Go.Fx
/-- A tree that the call owns, but for the blocks' data. -/
def trH (g gm : Nat) (ov : Value) (t : Tr) (N : List TN) (c : Nat) : List Asn :=
  [blk g (Rdr.cells Q_tree_Tree (tq t gm ov)).toArray T_tree_Tree, mpN gm N c, rows (rVec 32) ov (N.map (·.1))]
/-- The blocks' data stand among what the call owns. -/
def Dat (N : List TN) (As : List Asn) : Prop := ∀ x ∈ N, ownB x.2.2.1 x.2.1.d ∈ As
theorem trL_nil (g gm : Nat) (ov : Value) (t : Tr) (c : Nat) : trL g gm ov t [] c = trH g gm ov t [] c := rfl
theorem Dat.nil (As : List Asn) : Dat [] As := fun x hx => by cases hx
theorem Dat.sub {N : List TN} {As Bs : List Asn} (h : Dat N As) (hs : ∀ A ∈ As, A ∈ Bs) : Dat N Bs := fun x hx => hs _ (h x hx)
theorem Dat.add {N : List TN} {As : List Asn} {k : Vec 32} {b : Blk} {v : Value} {c : Nat} (h : Dat N As) : Dat (N ++ [(k, b, v, c)]) (ownB v b.d :: As) := fun x hx => by
  rcases List.mem_append.1 hx with hx | hx
  · exact List.mem_cons_of_mem _ (h x hx)
  · obtain rfl : x = (k, b, v, c) := by simpa using hx
    simp
section
variable {w0 w w' : World} {As : List Asn} {g gm c : Nat} {ov : Value} {t : Tr} {N : List TN}
theorem trH_rd (h : Sep w0 w (trH g gm ov t N c ++ As)) (hd : Dat N As) : TrR w.heap g gm ov t N c := by
  refine ⟨⟨_, _, Sep.blk h⟩, (by obtain ⟨E, hE, h2⟩ := mpN_open (Sep.tail h); exact ⟨E, hE, Sep.map h2⟩), Sep.rows (Sep.tail (Sep.tail h)), fun x hx => ?_⟩
  obtain ⟨F, hF⟩ := h.onL (A := ownB x.2.2.1 x.2.1.d) (by
    simp only [trH, List.cons_append, List.mem_cons, List.nil_append]
    exact .inr (.inr (.inr (hd x hx))))
  exact OwnB.rd hF
/-- Which error an Add has. -/
def addE (t : Tr) (N : List TN) (b : Blk) : Int :=
  if b.chk ≠ 0 then b.chk else if has t N b.id = true then 110 else if has t N b.p = false ∨ b.h < 1 ∨ b.h - 1 ≠ levH t N b.p then 31 else if t.most ≤ N.length then 6 else 0
theorem Add_spec {b : Blk} {v : Value} (hs : Sep w0 w (trH g gm ov t N c ++ As)) (hd : Dat N As) (hw : TrW t N) (hC : Cub w) (hb : RdB w.heap v b.d) (hh : b.h ≤ maxI) (hn : N.length ≤ 1000000) :
    cal P f_tree_Tree_Add [.pointer (some ⟨g, 0, none⟩), bq b v] w fun r w' =>
      (addE t N b ≠ 0 ∧ r = .tuple #[kv (vz 32), .int .i64 (addE t N b)] ∧ Sep w0 w' (trH g gm ov t N c ++ As)) ∨
      (addE t N b = 0 ∧ r = .tuple #[kv b.id, .int .i64 0] ∧ ∃ ov' vd, Sep w0 w' (trH g gm ov' t (N ++ [(b.id, b, vd, c)]) (c + 1) ++ (ownB vd b.d :: As))) := by
  have hr := trH_rd hs hd
  refine s_tree_Tree_Add fun R hR => ?_
  unfold c_tree_Tree_Add
  refine bxQ (Sep.start w) fun g3 w1 hs1 => ?_
  refine alloc_s hs1 (A_api_ID w1) fun g4 w2 hs2 => ?_
  refine cal_i (tnone_spec (hs2.tr hr)) ?_
  rintro _ _ ⟨rfl, rfl⟩
  simp only [fx, Nat.reduceAdd, forall_const, L_api_Block (Sep.p1 hs2).blk, L_api_Block__Parent (Sep.p1 hs2).blk, L_api_Block__Height (Sep.p1 hs2).blk, L_api_Block__Data (Sep.p1 hs2).blk]
  refine cal_i (bkID_spec (hC.fr hs2.fr0) (hb.fr hs2.fr0 (off_nil _)) hh) ?_
  rintro _ w3 ⟨rfl, hf3⟩
  have hs3 := hs2.old hf3
  simp only [fx, Nat.reduceAdd, forall_const]
  refine alloc_s hs3 (A_api_ID w3) fun g6 w4 hs4 => ?_
  refine St_api_ID hs4 fun w5 hs5 => ?_
  have bad : ∀ (w6 : World) (e : Int), Sep w w6 [blk g6 (Rdr.cells (rVec 32) b.name).toArray T_api_ID, blk g4 (Rdr.cells (rVec 32) (vz 32)).toArray T_api_ID, blk g3 (Rdr.cells Q_api_Block (b.p, b.h, v)).toArray T_api_Block] → addE t N b = e → e ≠ 0 →
      rdP P (Instr.build T_api_ID #[]) w6 fun t20 => stN 32 (.pointer (some ⟨g4, 0, none⟩)) t20 w6 fun w => ldN 32 (.pointer (some ⟨g4, 0, none⟩)) w.heap fun r1 => R (.tuple #[r1, .int .i64 e]) w := fun w6 e hs6 he h0 => by
    rw [B_ID0]
    refine St_api_ID hs6.p1 fun w7 hs7 => ?_
    simp only [L_api_ID hs7.blk]
    exact hR _ _ (.inl ⟨by rw [he]; exact h0, by rw [he], hs.old hs7.fr0⟩)
  rw [cnd_bool]
  refine ⟨fun h => ?_, fun h => ?_⟩
  · have h : b.chk ≠ 0 := by simpa using h
    exact bad w5 b.chk hs5 (by unfold addE; rw [if_pos h]) h
  have h1 : b.chk = 0 := by simpa using h
  have hnm : b.name = b.id := by unfold Blk.name; rw [if_pos h1]
  rw [hnm] at hs5 bad
  simp only [L_api_ID hs5.blk]
  refine cal_i (Has_spec (hs5.tr hr) b.id) ?_
  rintro _ w6 ⟨rfl, hf6⟩
  have hs6 := hs5.old hf6
  rw [cnd_bool]
  refine ⟨fun h => ?_, fun h => ?_⟩
  · exact bad w6 110 hs6 (by unfold addE; rw [if_neg (by simpa using h1), if_pos h]) (by decide)
  have h2 : ¬ has t N b.id = true := by rw [h]; simp
  simp only [fx, Nat.reduceAdd, forall_const, L_api_Block (Sep.p2 hs6).blk, L_api_Block__Parent (Sep.p2 hs6).blk, L_api_Block__Height (Sep.p2 hs6).blk, L_api_Block__Data (Sep.p2 hs6).blk]
  refine cal_i (level_spec (hs6.tr hr) b.p) ?_
  rintro _ w7 ⟨rfl, hf7⟩
  have hs7 := hs6.old hf7
  simp only [fx, Nat.reduceAdd, forall_const, L_api_Block (Sep.p2 hs7).blk, L_api_Block__Parent (Sep.p2 hs7).blk, L_api_Block__Height (Sep.p2 hs7).blk, L_api_Block__Data (Sep.p2 hs7).blk]
  rw [cnd_bool]
  refine ⟨fun h => ?_, fun h => ?_⟩
  · refine bad w7 31 hs7 ?_ (by decide)
    unfold addE
    rw [if_neg (by simpa using h1), if_neg h2, if_pos]
    simp only [Bool.or_eq_true, Bool.not_eq_true', decide_eq_true_eq, bne_iff_ne, ne_eq] at h
    rcases h with (h | h) | h
    · exact .inl h
    · exact .inr (.inl h)
    · by_cases h4 : b.h < 1
      · exact .inr (.inl h4)
      · rw [wi64 (by omega) (by unfold maxI at hh; omega)] at h
        exact .inr (.inr h)
  simp only [Bool.or_eq_false_iff, Bool.not_eq_false', decide_eq_false_iff_not, bne_eq_false_iff_eq] at h
  obtain ⟨⟨h3, h4⟩, h5⟩ := h
  rw [wi64 (by omega) (by unfold maxI at hh; omega)] at h5
  have h31 : ¬ (has t N b.p = false ∨ b.h < 1 ∨ b.h - 1 ≠ levH t N b.p) := by
    rintro (h | h | h)
    · rw [h3] at h; cases h
    · exact h4 h
    · exact h h5
  refine drw_s hs7 fun w8 hs8 _ => ?_
  obtain ⟨T, fr, hc⟩ := (hs8.tr hr).cell
  simp only [fx, Nat.reduceAdd, forall_const, L_tree_Tree hc, L_tree_Tree__made hc, L_tree_Tree__root hc, L_tree_Tree__height hc, L_tree_Tree__most hc, L_tree_Tree__blocks hc, L_tree_Tree__order hc]
  rw [(hs8.tr hr).mlen (by omega)]
  simp only [fx, Nat.reduceAdd, forall_const]
  rw [cnd_bool]
  refine ⟨fun h => ?_, fun h => ?_⟩
  · have h : t.most ≤ (N.length : Int) := by simpa using h
    exact bad w8 6 hs8 (by unfold addE; rw [if_neg (by simpa using h1), if_neg h2, if_neg h31, if_pos h]) (by decide)
  have h6 : ¬ t.most ≤ (N.length : Int) := by simpa using h
  have hE : addE t N b = 0 := by unfold addE; rw [if_neg (by simpa using h1), if_neg h2, if_neg h31, if_neg h6]
  have hg0 : getE b.id (N.map TN.ent) = none := by
    have h7 : has t N b.id = false := by simpa using h2
    unfold has at h7
    simp only [Bool.or_eq_false_iff] at h7
    have h8 := nb_is b.id N
    rw [h7.2] at h8
    cases hgE : getE b.id (N.map TN.ent) with
    | none => rfl
    | some x => rw [hgE] at h8; cases h8
  have hsA := hs.join hs8
  refine drH_S hsA fun w9 hs9 hh9 => ?_
  refine rdS_ld (v := .map (some gm)) (fun u hu K hk => (L_tree_Tree__blocks (Sep.p3 hu).blk K).mpr hk) ?_
  refine ⟨kv b.id, fun u hu => (L_api_ID (Sep.blk hu) _).mpr rfl, ?_⟩
  refine ⟨bq b v, fun u hu => (L_api_Block (Sep.blk (Sep.p2 hu)) _).mpr rfl, ?_⟩
  have hl : b.d.length ≤ 200 := by
    unfold Blk.chk at h1
    split at h1
    · cases h1
    · omega
  refine efS_i (cal_i (bkClone_spec (b := b) (v := v) (by rw [hh9]; exact hb.fr hs8.fr0 (off_nil _)) (by omega)) ?_)
  rintro _ w10 ⟨vd, rfl, hs10⟩
  have hs10' := hs9.join hs10
  refine ⟨Sep.tail hs10', ?_⟩
  obtain ⟨E, hEO, hs10e⟩ := mpN_open (Sep.p5 hs10')
  refine efC_efU (putNew_s (c := c) U_map_api_ID_api_Block KT hs10e (by rw [hEO.get]; exact hg0) fun w11 hs11 => ?_)
  replace hs11 := mpN_close (hEO.add (c' := c) hg0) hs11
  refine drH_S hs11 fun w12 hs12 _ => ?_
  refine rdS_ld (v := ov) (fun u hu K hk => (L_tree_Tree__order (Sep.p5 hu).blk K).mpr hk) ?_
  refine ⟨kv b.id, fun u hu => (L_api_ID (Sep.p2 hu).blk _).mpr rfl, ?_⟩
  refine efS_i (rows_lit hs12 S_sl_api_ID (l := [b.id]) (V := fun a => .agg (Rdr.cells (rVec 32) a).toArray) (fun a => rfl) rfl rfl (by decide) (by decide) fun g7 w13 hs13 => ⟨hs13.tail, ?_⟩)
  refine efC_efP (rows_app S_sl_api_ID U_sl_api_ID (by simp) (Sep.pick hs13 [7, 0, 1, 2, 3, 4, 5, 6] 8) (Sep.rows hs13) ?_ (by simp; omega) (by simp; omega) fun v14 w14 hs14 => ?_)
  · simp only [List.flatMap_cons, List.flatMap_nil, List.append_nil]
    exact oneVec
  have hs15 := Sep.pick hs14 [7, 0, 1, 2, 3, 4, 5, 6] 8
  refine efC_st1 (St_tree_Tree__order hs15 (Sep.oneR hs14) fun w16 hs16 => ?_)
  simp only [L_api_ID (Sep.blk (Sep.p5 hs16))]
  refine St_api_ID (Sep.pick hs16 [6, 0, 1, 2, 3, 4, 5, 7] 8) fun w17 hs17 => ?_
  simp only [L_api_ID (Sep.blk hs17)]
  refine hR _ _ (.inr ⟨hE, rfl, v14, vd, ?_⟩)
  have hs18 := Sep.pick hs17 [1, 4, 2, 5] 8
  have e2 : (N ++ [(b.id, b, vd, c)]).map (·.1) = N.map (·.1) ++ [b.id] := by simp
  unfold trH
  rw [e2]
  exact hs18
end
/-- With one more the tree is well-formed. -/
theorem nodeOf_snoc {k : Vec 32} {N : List TN} {x : TN} : nodeOf k (N ++ [x]) = (nodeOf k N).or (if k = x.1 then some x else none) := by
  unfold nodeOf
  rw [List.find?_append]
  congr 1
  by_cases h : k = x.1 <;> simp [h]
theorem blkOf_snoc {k : Vec 32} {N : List TN} {x : TN} : blkOf k (N ++ [x]) = (blkOf k N).or (if k = x.1 then some x.2.1 else none) := by
  unfold blkOf
  rw [nodeOf_snoc]
  cases nodeOf k N with
  | some y => rfl
  | none => by_cases h : k = x.1 <;> simp [h]
theorem has_old {t : Tr} {N : List TN} {x : TN} {k : Vec 32} (h : has t N k = true) : has t (N ++ [x]) k = true ∧ levH t (N ++ [x]) k = levH t N k := by
  by_cases hr : k = t.root
  · subst hr
    unfold has levH
    simp
  · have hb := has_blk h hr
    have h2 : blkOf k (N ++ [x]) = some (nb k N).1 := by rw [blkOf_snoc, hb]; rfl
    unfold has levH
    rw [h2, hb, if_neg hr]
    simp
theorem TrW.add {t : Tr} {N : List TN} {b : Blk} {vd : Value} {c : Nat} (hw : TrW t N) (h : addE t N b = 0) : TrW t (N ++ [(b.id, b, vd, c)]) := by
  unfold addE at h
  split at h
  · rename_i h1; exact absurd h h1
  rename_i h1
  split at h
  · cases h
  rename_i h2
  split at h
  · cases h
  rename_i h3
  have h1 : b.chk = 0 := by simpa using h1
  have h2 : has t N b.id = false := by simpa using h2
  have h4 : has t N b.p = true ∧ ¬ b.h < 1 ∧ b.h - 1 = levH t N b.p := by
    refine ⟨?_, fun h => h3 (.inr (.inl h)), ?_⟩
    · cases hp : has t N b.p with
      | true => rfl
      | false => exact absurd (.inl hp) h3
    · by_cases hq : b.h - 1 = levH t N b.p
      · exact hq
      · exact absurd (.inr (.inr hq)) h3
  have hlev : ∀ k, has t N k = true → t.ht ≤ levH t N k := fun k hk => by
    by_cases hr : k = t.root
    · unfold levH; rw [if_pos hr]; omega
    · have hb := has_blk hk hr
      have := hw.above _ _ hb
      unfold levH
      rw [if_neg hr, hb]
      simp only
      omega
  have hnr : ¬ b.id = t.root := fun he => by
    unfold has at h2
    rw [decide_eq_true he] at h2
    cases h2
  have key : ∀ k b', blkOf k (N ++ [(b.id, b, vd, c)]) = some b' → blkOf k N = some b' ∨ (k = b.id ∧ b' = b) := fun k b' hk => by
    rw [blkOf_snoc] at hk
    cases hb : blkOf k N with
    | some y => rw [hb] at hk; exact .inl hk
    | none =>
      rw [hb] at hk
      by_cases he : k = b.id
      · simp [he] at hk; exact .inr ⟨he, hk.symm⟩
      · simp [he] at hk
  refine ⟨fun k b' hk => ?_, fun k b' hk => ?_, ?_, fun x hx => ?_⟩
  · rcases key k b' hk with hk | ⟨rfl, rfl⟩
    · obtain ⟨h5, h6⟩ := hw.up k b' hk
      obtain ⟨h7, h8⟩ := has_old (x := (b.id, b, vd, c)) h5
      exact ⟨h7, by rw [h8]; exact h6⟩
    · obtain ⟨h7, h8⟩ := has_old (x := (b'.id, b', vd, c)) h4.1
      exact ⟨h7, by rw [h8, ← h4.2.2]; omega⟩
  · rcases key k b' hk with hk | ⟨rfl, rfl⟩
    · exact hw.above k b' hk
    · have := hlev _ h4.1
      omega
  · rw [blkOf_snoc, hw.noroot, if_neg (fun he => hnr he.symm)]
    rfl
  · rcases List.mem_append.1 hx with hx | hx
    · exact hw.small x hx
    · obtain rfl : x = (b.id, b, vd, c) := by simpa using hx
      unfold Blk.chk at h1
      split at h1
      · cases h1
      · show b.d.length ≤ 200
        omega
end Go.Fx
set_option linter.unusedVariables false
set_option linter.unusedSimpArgs false
namespace Go.Fx
def mvOk (t : Tr) (N : List TN) (k : Vec 32) : Bool := (blkOf k N).isSome && decide ((nb k N).1.p = t.root)
def mvT (t : Tr) (N : List TN) (k : Vec 32) : Tr := ⟨k, (nb k N).1.h, t.most⟩
def mvGone (t : Tr) (N : List TN) (k : Vec 32) : List (Vec 32) := (N.map (·.1)).filter fun x => !under t N x k
def mvStay (t : Tr) (N : List TN) (k : Vec 32) : List (Vec 32) := (N.map (·.1)).filter fun x => !decide (x = k) && under t N x k
def mvN (t : Tr) (N : List TN) (k : Vec 32) : List TN := N.filter fun x => !decide (x.1 = k) && under t N x.1 k
theorem findE_idx {n : Nat} {k : Vec n} : ∀ {l : List (Ent n)} {i j : Nat} {v : Value}, findE k l i = some (j, v) → i ≤ j
  | [], _, _, _, h => by simp [findE] at h
  | x :: l, i, j, v, h => by
    unfold findE at h
    split at h
    · simp at h; omega
    · have := findE_idx h; omega
theorem filter_ne_self {n : Nat} {k : Vec n} {l : List (Ent n)} (h : k ∉ l.map (·.1)) : l.filter (fun x => !decide (x.1 = k)) = l := by
  rw [List.filter_eq_self]
  intro x hx
  have : x.1 ≠ k := fun he => h (he ▸ List.mem_map_of_mem hx)
  simp [this]
theorem delE_filter {n : Nat} {k : Vec n} {l : List (Ent n)} (hn : (l.map (·.1)).Nodup) : delE k l = l.filter fun x => !decide (x.1 = k) := by
  have go : ∀ (l : List (Ent n)) (i : Nat), (l.map (·.1)).Nodup → (match findE k l i with
      | some (j, _) => l.eraseIdx (j - i)
      | none => l) = l.filter fun x => !decide (x.1 = k) := by
    intro l
    induction l with
    | nil => intro i _; rfl
    | cons x l ih =>
      intro i hn
      simp only [List.map_cons, List.nodup_cons] at hn
      unfold findE
      by_cases hx : k = x.1
      · rw [if_pos hx]
        subst hx
        simp only [Nat.sub_self, List.eraseIdx_zero, List.tail_cons]
        rw [List.filter_cons_of_neg (by simp), filter_ne_self hn.1]
      · rw [if_neg hx, List.filter_cons_of_pos (by simp; exact fun h => hx h.symm), ← ih (i + 1) hn.2]
        cases hf : findE k l (i + 1) with
        | none => rfl
        | some y =>
          obtain ⟨j, v⟩ := y
          have := findE_idx hf
          simp only
          rw [show j - i = (j - (i + 1)) + 1 by omega, List.eraseIdx_cons_succ]
  unfold delE
  have := go l 0 hn
  cases hf : findE k l 0 with
  | none => rw [hf] at this; exact this
  | some y => rw [hf] at this; exact this
theorem del_N {w0 w : World} {As : List Asn} {gm c : Nat} {N : List TN} {k : Vec 32} {K : Value → World → Prop} (hs : Sep w0 w (mpN gm N c :: As)) (h : ∀ w', Sep w0 w' (mpN gm (N.filter fun x => !decide (x.1 = k)) c :: As) → K (.tuple #[]) w') :
    efP P (Builtin.delete_ #[T_map_api_ID_api_Block, T_api_ID] T_ #[.map (some gm), kv k]) w K := by
  obtain ⟨E, hE, hs2⟩ := mpN_open hs
  refine del_s U_map_api_ID_api_Block KT hs2 fun w' hs' => h w' ?_
  rw [delE_filter hE.nd] at hs'
  exact mpN_close (hE.filter fun y => !decide (y = k)) hs'
theorem keep_step {N : List TN} {G : List (Vec 32)} {x : Vec 32} : (N.filter fun y => !decide (y.1 ∈ G)).filter (fun y => !decide (y.1 = x)) = N.filter fun y => !decide (y.1 ∈ G ++ [x]) := by
  rw [List.filter_filter]
  congr 1
  funext y
  by_cases h1 : y.1 = x <;> by_cases h2 : y.1 ∈ G <;> simp [h1, h2]
section
variable {w0 w w' : World} {As : List Asn} {g gm c : Nat} {ov : Value} {t : Tr} {N : List TN}
theorem Move_spec (hs : Sep w0 w (trH g gm ov t N c ++ As)) (hd : Dat N As) (hw : TrW t N) (hu : (N.map (·.1)).Nodup) (hn : N.length ≤ 1000000) (k : Vec 32) :
    cal P f_tree_Tree_Move [.pointer (some ⟨g, 0, none⟩), kv k] w fun r w' =>
      (mvOk t N k = false ∧ r = .tuple #[.slice none 0 0, .int .i64 4] ∧ Sep w0 w' (trH g gm ov t N c ++ As)) ∨
      (mvOk t N k = true ∧ ∃ gv ov', r = .tuple #[gv, .int .i64 0] ∧ Sep w0 w' (trH g gm ov' (mvT t N k) (mvN t N k) c ++ (rows (rVec 32) gv (mvGone t N k) :: As))) := by
  have hr := trH_rd hs hd
  refine s_tree_Tree_Move fun R hR => ?_
  unfold c_tree_Tree_Move
  refine bx_s (Sep.start w) fun g2 w1 hs1 => ?_
  replace hs1 : Sep w w1 [blk g2 #[.pointer (some ⟨g, 0, none⟩)] T_p_tree_Tree] := hs1
  refine bxQ hs1 fun g3 w2 hs2 => ?_
  refine ld1_i (Sep.p1 hs2).blk rfl ?_
  refine cal_i (tnone_spec (hs2.tr hr)) ?_
  rintro _ _ ⟨rfl, rfl⟩
  simp only [fx, Nat.reduceAdd, forall_const]
  refine drH_S hs2 fun w3 hs3 _ => ?_
  refine rdS_ld (v := .pointer (some ⟨g, 0, none⟩)) (fun u hu K hk => ld1_i (Sep.p1 hu).blk rfl hk) ?_
  simp only [fx, Nat.reduceAdd, forall_const]
  refine rdS_ld (v := .map (some gm)) (fun u hu K hk => by
    obtain ⟨T, fr, hc⟩ := (hu.tr hr).cell
    exact (L_tree_Tree__blocks hc K).mpr hk) ?_
  refine ⟨kv k, fun u hu => (L_api_ID hu.blk _).mpr rfl, ?_⟩
  refine ⟨.tuple #[(getE k (N.map TN.ent)).getD (bq Blk.none (.slice none 0 0)), .bool (getE k (N.map TN.ent)).isSome], fun u hu => ((hu.tr hr).look k _).mpr rfl, ?_⟩
  rw [nb_get, nb_is]
  simp only [fx, Nat.reduceAdd, forall_const]
  refine efS_i (alloc_s hs3 (A_api_Block w3) fun g6 w4 hs4 => ⟨hs4.tail, ?_⟩)
  refine efC_stN (St_api_Block hs4 (one_api_Block (nb_rd (hs4.tr hr) k).one) fun w5 hs5 => ?_)
  refine drw_s hs5 fun w6 hs6 _ => ?_
  obtain ⟨T, fr, hc⟩ := (hs6.tr hr).cell
  have hl2 : ∀ K : Value → Prop, ld1 (.pointer (some ⟨g2, 0, none⟩)) w6.heap K = K (.pointer (some ⟨g, 0, none⟩)) := fun K => by rw [ld1_eq (Sep.p2 hs6).blk]; exact ex_some _ K
  simp only [fx, Nat.reduceAdd, forall_const, L_api_Block hs6.blk, L_api_Block__Parent hs6.blk, L_api_Block__Height hs6.blk, L_api_Block__Data hs6.blk, hl2, L_tree_Tree hc, L_tree_Tree__made hc, L_tree_Tree__root hc, L_tree_Tree__height hc, L_tree_Tree__most hc, L_tree_Tree__blocks hc, L_tree_Tree__order hc, ne_api_ID]
  rw [cnd_bool]
  refine ⟨fun h => ?_, fun h => ?_⟩
  · refine hR _ _ (.inl ⟨?_, rfl, hs.old hs6.fr0⟩)
    unfold mvOk
    simp only [Bool.or_eq_true, Bool.not_eq_true'] at h
    rcases h with h | h
    · rw [h, Bool.false_and]
    · rw [h, Bool.and_false]
  have hok : mvOk t N k = true := by
    unfold mvOk
    simp only [Bool.or_eq_false_iff, Bool.not_eq_false'] at h
    rw [h.1, h.2]
    rfl
  refine cal_i (those_spec (f := f_tree_Tree_Move_1) (cap := [.pointer (some ⟨g2, 0, none⟩), .pointer (some ⟨g3, 0, none⟩)]) (so := fun x => !under t N x k) (hs6.tr hr) hn (by kernel_rfl) ?_) ?_
  · intro z x hz
    have hsz := hs6.old hz
    refine s_tree_Tree_Move_1 fun R hR => ?_
    unfold c_tree_Tree_Move_1
    refine bxQ (Sep.start z) fun g5 w5 hs5 => ?_
    have h2 := hs5.fr0.blk (Sep.p2 hsz).blk (by simp)
    have h3 := hs5.fr0.blk (Sep.p1 hsz).blk (by simp)
    refine ld1_i h2 rfl ?_
    simp only [L_api_ID hs5.blk, L_api_ID h3]
    refine cal_i (Within_spec (TrR.fr (hsz.tr hr) hs5.fr0) hw x k) ?_
    rintro _ w6 ⟨rfl, hf6⟩
    simp only [fx, Nat.reduceAdd, forall_const]
    exact hR _ _ ⟨rfl, (hs5.old hf6).fr0⟩
  rintro gv w7 hs7
  replace hs7 := hs6.join hs7
  rw [ld1_eq (Sep.blk (Sep.p3 hs7))]
  refine ⟨_, rfl, ?_⟩
  refine cal_i (those_spec (f := f_tree_Tree_Move_2) (cap := [.pointer (some ⟨g3, 0, none⟩), .pointer (some ⟨g2, 0, none⟩)]) (so := fun x => !decide (x = k) && under t N x k) (hs7.tr hr) hn (by kernel_rfl) ?_) ?_
  · intro z x hz
    have hsz := hs7.old hz
    refine s_tree_Tree_Move_2 fun R hR => ?_
    unfold c_tree_Tree_Move_2
    refine bxQ (Sep.start z) fun g5 w5 hs5 => ?_
    have h2 := hs5.fr0.blk (Sep.blk (Sep.p3 hsz)) (by simp)
    have h3 := hs5.fr0.blk (Sep.blk (Sep.p2 hsz)) (by simp)
    have hl2 : ∀ K : Value → Prop, ld1 (.pointer (some ⟨g2, 0, none⟩)) w5.heap K = K (.pointer (some ⟨g, 0, none⟩)) := fun K => by rw [ld1_eq h2]; exact ex_some _ K
    simp only [L_api_ID hs5.blk, L_api_ID h3, ne_api_ID]
    by_cases hx : x = k
    · simp only [hx, decide_true, fx, Nat.reduceAdd, forall_const]
      exact hR _ _ ⟨by simp [hx], hs5.fr0⟩
    · simp only [hx, decide_false, fx, Nat.reduceAdd, forall_const]
      refine jn1_dup ?_
      rw [hl2]
      refine cal_i (Within_spec (TrR.fr (hsz.tr hr) hs5.fr0) hw x k) ?_
      rintro _ w6 ⟨rfl, hf6⟩
      simp only [fx, Nat.reduceAdd, forall_const]
      exact hR _ _ ⟨by simp [hx], (hs5.old hf6).fr0⟩
  rintro sv w8 hs8
  replace hs8 := hs7.join hs8
  change Sep w w8 [rows (rVec 32) sv (mvStay t N k), rows (rVec 32) gv (mvGone t N k), blk g6 _ T_api_Block, blk g3 _ T_api_ID, blk g2 _ T_p_tree_Tree] at hs8
  have hA := hs.join hs8
  obtain ⟨G, hG⟩ : ∃ G, G = mvGone t N k := ⟨_, rfl⟩
  have hGl : G.length ≤ 1000000 := by
    rw [hG]
    unfold mvGone
    have := List.length_filter_le (fun x => !under t N x k) (N.map (·.1))
    rw [List.length_map] at this
    omega
  rw [← hG] at hA
  have hA' : Sep w0 w8 (mpN gm (N.filter fun y => !decide (y.1 ∈ G.take 0)) c :: rows (rVec 32) gv G :: blk g3 (Rdr.cells (rVec 32) k).toArray T_api_ID :: blk g2 #[.pointer (some ⟨g, 0, none⟩)] T_p_tree_Tree :: blk g (Rdr.cells Q_tree_Tree (tq t gm ov)).toArray T_tree_Tree ::
      rows (rVec 32) sv (mvStay t N k) :: blk g6 (Rdr.cells Q_api_Block ((nb k N).1.p, (nb k N).1.h, (nb k N).2)).toArray T_api_Block :: rows (rVec 32) ov (N.map (·.1)) :: As) := by
    have e0 : (N.filter fun y => !decide (y.1 ∈ G.take 0)) = N := List.filter_eq_self.2 fun y _ => by simp
    rw [e0]
    exact Sep.pick hA [6, 1, 3, 4, 5, 0, 2, 7] 8
  have hlen : ∀ K, lenS gv K = K (.int .i64 G.length) := fun K => (Sep.rows hA'.p1).len K
  simp only [hlen]
  refine ⟨fun x z => ∃ i : Nat, x = .int .i64 i ∧ i ≤ G.length ∧ Sep w0 z (mpN gm (N.filter fun y => !decide (y.1 ∈ G.take i)) c :: rows (rVec 32) gv G :: blk g3 (Rdr.cells (rVec 32) k).toArray T_api_ID :: blk g2 #[.pointer (some ⟨g, 0, none⟩)] T_p_tree_Tree :: blk g (Rdr.cells Q_tree_Tree (tq t gm ov)).toArray T_tree_Tree ::
      rows (rVec 32) sv (mvStay t N k) :: blk g6 (Rdr.cells Q_api_Block ((nb k N).1.p, (nb k N).1.h, (nb k N).2)).toArray T_api_Block :: rows (rVec 32) ov (N.map (·.1)) :: As), fun x _ => (G.length - RowKit.intOf x).toNat, ⟨0, rfl, by omega, hA'⟩, ?_⟩
  rintro _ w9 ⟨i, rfl, hi, hs9⟩ -
  simp only [fx, Nat.reduceAdd, forall_const]
  rw [cnd_bool]
  refine ⟨fun h => ?_, fun h => ?_⟩
  · have hlt : i < G.length := by simp at h; omega
    obtain ⟨x, hx⟩ : ∃ x, G[i]? = some x := ⟨_, List.getElem?_eq_getElem hlt⟩
    change ixs 32 _ _ _
    refine Rows'.ldN (q := rVec 32) (by decide) (Sep.rows hs9.p1) hx .i64 ?_
    refine alloc_s hs9 (A_api_ID w9) fun g11 w10 hs10 => ?_
    refine St_api_ID (b := x) hs10 fun w11 hs11 => ?_
    refine drH_S hs11 fun w12 hs12 _ => ?_
    refine rdS_ld (v := .pointer (some ⟨g, 0, none⟩)) (fun u hu K hk => ld1_i (Sep.blk (Sep.p4 hu)) rfl hk) ?_
    simp only [fx, Nat.reduceAdd, forall_const]
    refine rdS_ld (v := .map (some gm)) (fun u hu K hk => (L_tree_Tree__blocks (Sep.p5 hu).blk K).mpr hk) ?_
    refine ⟨kv x, fun u hu => (L_api_ID (Sep.blk hu) _).mpr rfl, ?_⟩
    refine efC_efP (del_N hs12.p1 fun w13 hs13 => ?_)
    rw [wi64 (by omega) (by omega)]
    refine ⟨⟨i + 1, by simp, by omega, ?_⟩, by simp [RowKit.intOf]; omega⟩
    have e : (N.filter fun y => !decide (y.1 ∈ G.take (i + 1))) = (N.filter fun y => !decide (y.1 ∈ G.take i)).filter fun y => !decide (y.1 = x) := by
      rw [keep_step, List.take_add_one, hx]
      rfl
    rw [e]
    exact hs13.d1
  have hge : i = G.length := by simp at h; omega
  rw [hge, List.take_of_length_le (Nat.le_refl _)] at hs9
  clear hlen hA' hA
  refine drH_S hs9 fun w10 hs10 _ => ?_
  refine rdS_ld (v := .pointer (some ⟨g, 0, none⟩)) (fun u hu K hk => ld1_i (Sep.blk (Sep.p3 hu)) rfl hk) ?_
  simp only [fx, Nat.reduceAdd, forall_const]
  refine rdS_ld (v := .map (some gm)) (fun u hu K hk => (L_tree_Tree__blocks (Sep.p4 hu).blk K).mpr hk) ?_
  refine ⟨kv k, fun u hu => (L_api_ID (Sep.blk (Sep.p2 hu)) _).mpr rfl, ?_⟩
  refine efC_efP (del_N hs10 fun w11 hs11 => ?_)
  have hfin : (N.filter fun y => !decide (y.1 ∈ G)).filter (fun y => !decide (y.1 = k)) = mvN t N k := by
    rw [List.filter_filter, hG]
    unfold mvN
    refine List.filter_congr fun x hx => ?_
    have hxm : x.1 ∈ N.map (·.1) := List.mem_map_of_mem hx
    show (!decide (x.1 = k) && !decide (x.1 ∈ mvGone t N k)) = _
    congr 1
    have hm : x.1 ∈ mvGone t N k ↔ under t N x.1 k = false := by
      unfold mvGone
      rw [List.mem_filter]
      simp [hxm]
    cases hq : under t N x.1 k
    · simp [hm, hq]
    · simp [hm, hq]
  rw [hfin] at hs11
  have hs12 := Sep.pick hs11 [4, 3, 2, 6, 0, 1, 5, 7] 8
  refine ⟨fun u => ∃ q, Sep w0 u (blk g (Rdr.cells Q_tree_Tree q).toArray T_tree_Tree :: blk g2 #[.pointer (some ⟨g, 0, none⟩)] T_p_tree_Tree :: blk g3 (Rdr.cells (rVec 32) k).toArray T_api_ID ::
    blk g6 (Rdr.cells Q_api_Block ((nb k N).1.p, (nb k N).1.h, (nb k N).2)).toArray T_api_Block :: mpN gm (mvN t N k) c :: rows (rVec 32) gv G :: rows (rVec 32) sv (mvStay t N k) :: rows (rVec 32) ov (N.map (·.1)) :: As), ⟨_, hs12.drew _⟩, ?_⟩
  refine rdS_ld (v := .pointer (some ⟨g, 0, none⟩)) (fun u ⟨q, hu⟩ K hk => ld1_i (Sep.blk (Sep.p1 hu)) rfl hk) ?_
  refine rdS_ld (v := .pointer (some ⟨g, 0, none⟩)) (fun u ⟨q, hu⟩ K hk => ld1_i (Sep.blk (Sep.p1 hu)) rfl hk) ?_
  refine rdS_ld (v := .pointer (some ⟨g, 0, none⟩)) (fun u ⟨q, hu⟩ K hk => ld1_i (Sep.blk (Sep.p1 hu)) rfl hk) ?_
  refine ⟨kv k, fun u ⟨q, hu⟩ => (L_api_ID (Sep.blk (Sep.p2 hu)) _).mpr rfl, ?_⟩
  simp only [fx, Nat.reduceAdd, forall_const]
  refine rdS_ld (v := .int .i64 (nb k N).1.h) (fun u ⟨q, hu⟩ K hk => (L_api_Block__Height (Sep.blk (Sep.p3 hu)) K).mpr hk) ?_
  refine efS_i (St_tree_Tree__root (hs12.drew _) oneVec fun w13 hs13 => ⟨⟨_, hs13⟩, ?_⟩)
  refine efS_i (St_tree_Tree__height hs13 fun w14 hs14 => ⟨⟨_, hs14⟩, ?_⟩)
  refine efC_st1 (St_tree_Tree__order hs14 (Sep.oneR (Sep.pick hs14 [6] 7)) fun w15 hs15 => ?_)
  refine hR _ _ (.inr ⟨hok, gv, sv, rfl, ?_⟩)
  have hs16 := Sep.pick hs15 [0, 4, 6, 5] 8
  have e2 : (mvN t N k).map (·.1) = mvStay t N k := by
    unfold mvN mvStay
    rw [List.filter_map]
    rfl
  subst hG
  unfold trH
  rw [e2]
  exact hs16
end
end Go.Fx
set_option linter.unusedVariables false
set_option linter.unusedSimpArgs false
namespace Go.Fx
/-- A tree to which blocks were added. -/
structure TI (t : Tr) (N : List TN) : Prop where
  w : TrW t N
  nd : (N.map (·.1)).Nodup
  hb : ∀ k, has t N k = true → hgt t N k ≤ N.length
  hi : ∀ x ∈ N, x.2.1.h ≤ maxI
  ht : 0 ≤ t.ht
section
variable {t : Tr} {N : List TN}
theorem TI.nil (h : 0 ≤ t.ht) : TI t [] := ⟨TrW.nil t, by simp, fun k hk => by
  have : k = t.root := by simpa [has, blkOf, nodeOf] using hk
  subst this
  simp [hgt, levH], (fun x hx => by cases hx), h⟩
theorem addE_ok {b : Blk} (h : addE t N b = 0) : b.chk = 0 ∧ has t N b.id = false ∧ has t N b.p = true ∧ 1 ≤ b.h ∧ b.h = levH t N b.p + 1 ∧ (N.length : Int) < t.most := by
  unfold addE at h
  split at h
  · rename_i h1; exact absurd h h1
  rename_i h1
  split at h
  · cases h
  rename_i h2
  split at h
  · cases h
  rename_i h3
  split at h
  · cases h
  rename_i h4
  refine ⟨by simpa using h1, by simpa using h2, ?_, ?_, ?_, by omega⟩
  · cases hp : has t N b.p with
    | true => rfl
    | false => exact absurd (.inl hp) h3
  · by_cases hq : b.h < 1
    · exact absurd (.inr (.inl hq)) h3
    · omega
  · by_cases hq : b.h - 1 = levH t N b.p
    · omega
    · exact absurd (.inr (.inr hq)) h3
theorem has_mem {k : Vec 32} (h : has t N k = true) : k = t.root ∨ k ∈ N.map (·.1) := by
  unfold has at h
  simp only [Bool.or_eq_true, decide_eq_true_eq] at h
  refine h.imp id fun h => ?_
  unfold blkOf nodeOf at h
  rw [Option.isSome_map, List.find?_isSome] at h
  obtain ⟨x, hx, hk⟩ := h
  have hk : k = x.1 := by simpa using hk
  exact hk ▸ List.mem_map_of_mem hx
theorem mem_has {k : Vec 32} (h : k = t.root ∨ k ∈ N.map (·.1)) : has t N k = true := by
  unfold has
  rcases h with rfl | h
  · simp
  · obtain ⟨x, hx, rfl⟩ := List.mem_map.1 h
    have : (blkOf x.1 N).isSome = true := by
      unfold blkOf nodeOf
      rw [Option.isSome_map, List.find?_isSome]
      exact ⟨x, hx, by simp⟩
    simp [this]
theorem lev_ge (hw : TrW t N) {k : Vec 32} (hk : has t N k = true) : t.ht ≤ levH t N k := by
  by_cases hr : k = t.root
  · unfold levH; rw [if_pos hr]; omega
  · have hb := has_blk hk hr
    have := hw.above _ _ hb
    unfold levH
    rw [if_neg hr, hb]
    simp only
    omega
theorem lev_hgt (hw : TrW t N) {k : Vec 32} (hk : has t N k = true) : levH t N k = t.ht + (hgt t N k : Int) := by
  have := lev_ge hw hk
  unfold hgt
  omega
theorem TI.add {b : Blk} {vd : Value} {c : Nat} (hi : TI t N) (h : addE t N b = 0) (hm : b.h ≤ maxI) : TI t (N ++ [(b.id, b, vd, c)]) := by
  obtain ⟨h1, h2, h3, h4, h5, h6⟩ := addE_ok h
  have hnm : b.id ∉ N.map (·.1) := fun hm => by rw [mem_has (.inr hm)] at h2; cases h2
  have hnr : b.id ≠ t.root := fun he => by rw [mem_has (.inl he)] at h2; cases h2
  refine ⟨hi.w.add h, ?_, fun k hk => ?_, fun x hx => ?_, hi.ht⟩
  · rw [List.map_append, List.nodup_append]
    refine ⟨hi.nd, by simp, fun x hx y hy => ?_⟩
    simp only [List.map_cons, List.map_nil, List.mem_singleton] at hy
    subst hy
    intro he
    exact hnm (he ▸ hx)
  · rw [List.length_append, List.length_singleton]
    by_cases hold : has t N k = true
    · have h7 := has_old (x := (b.id, b, vd, c)) hold
      have h8 := hi.hb k hold
      unfold hgt at h8 ⊢
      rw [h7.2]
      omega
    · have hk' : k = b.id := by
        rcases has_mem hk with rfl | hm'
        · exact absurd (mem_has (.inl rfl)) hold
        · rw [List.map_append, List.mem_append] at hm'
          rcases hm' with hm' | hm'
          · exact absurd (mem_has (.inr hm')) hold
          · simpa using hm'
      subst hk'
      have h8 := hi.hb _ h3
      have hl := lev_hgt hi.w h3
      have hb : blkOf b.id (N ++ [(b.id, b, vd, c)]) = some b := by
        rw [blkOf_snoc]
        have : blkOf b.id N = none := by
          unfold has at h2
          simp only [Bool.or_eq_false_iff] at h2
          simpa using h2.2
        rw [this]
        simp
      have : levH t (N ++ [(b.id, b, vd, c)]) b.id = b.h := by
        unfold levH
        rw [if_neg hnr, hb]
      unfold hgt
      rw [this, h5, hl]
      omega
  · rcases List.mem_append.1 hx with hx | hx
    · exact hi.hi x hx
    · obtain rfl : x = (b.id, b, vd, c) := by simpa using hx
      exact hm
/-! ### Ways -/
theorem path_root : pathOf t N t.root = [] := by
  unfold pathOf
  rw [wayUp_root]
  split <;> rfl
theorem path_step (hw : TrW t N) {k : Vec 32} (h : has t N k = true) (hk : k ≠ t.root) : pathOf t N k = pathOf t N (upOf k N) ++ [k] := by
  have h2 := (up_has hw h hk).1
  unfold pathOf
  rw [if_pos h, if_pos h2, wayUp_step hw h hk, List.reverse_cons]
theorem path_ind (hw : TrW t N) {C : Vec 32 → Prop} (h0 : C t.root) (h1 : ∀ k, has t N k = true → k ≠ t.root → C (upOf k N) → C k) : ∀ k, has t N k = true → C k := by
  intro k
  generalize hn : hgt t N k = n
  induction n using Nat.strongRecOn generalizing k with
  | ind n ih =>
    intro hk
    by_cases hr : k = t.root
    · subst hr; exact h0
    · obtain ⟨h2, h3⟩ := up_has hw hk hr
      exact h1 k hk hr (ih _ (by omega) _ rfl h2)
theorem hgt_root : hgt t N t.root = 0 := by simp [hgt, levH]
theorem path_len (hw : TrW t N) : ∀ k, has t N k = true → (pathOf t N k).length = hgt t N k := by
  refine path_ind hw (by rw [path_root, hgt_root]; rfl) fun k hk hr ih => ?_
  rw [path_step hw hk hr, List.length_append, ih, (up_has hw hk hr).2]
  rfl
/-- What stands at a place of a way. -/
theorem path_at (hw : TrW t N) : ∀ k, has t N k = true → ∀ i x, (pathOf t N k)[i]? = some x →
    has t N x = true ∧ x ≠ t.root ∧ hgt t N x = i + 1 ∧ (if i = 0 then some t.root else (pathOf t N k)[i - 1]?) = some (upOf x N) := by
  refine path_ind hw (fun i x hx => by rw [path_root] at hx; simp at hx) fun k hk hr ih i x hx => ?_
  obtain ⟨h2, h3⟩ := up_has hw hk hr
  have hl := path_len hw _ h2
  rw [path_step hw hk hr] at hx ⊢
  by_cases hi : i < (pathOf t N (upOf k N)).length
  · rw [List.getElem?_append_left hi] at hx
    obtain ⟨h4, h5, h6, h7⟩ := ih i x hx
    refine ⟨h4, h5, h6, ?_⟩
    rw [List.getElem?_append_left (by omega)]
    exact h7
  · have hi2 : i = (pathOf t N (upOf k N)).length := by
      have := (List.getElem?_eq_some_iff.1 hx).1
      rw [List.length_append, List.length_singleton] at this
      omega
    subst hi2
    rw [List.getElem?_append_right (Nat.le_refl _), Nat.sub_self] at hx
    simp only [List.getElem?_cons_zero, Option.some.injEq] at hx
    subst hx
    refine ⟨hk, hr, by rw [h3, hl], ?_⟩
    by_cases h0 : (pathOf t N (upOf k N)).length = 0
    · rw [if_pos h0]
      by_cases hur : upOf k N = t.root
      · rw [hur]
      · rw [path_step hw h2 hur, List.length_append] at h0
        simp at h0
    · rw [if_neg h0, List.getElem?_append_left (by omega)]
      have hur : upOf k N ≠ t.root := fun he => by rw [he, path_root] at h0; exact h0 rfl
      rw [path_step hw h2 hur, List.length_append, List.length_singleton, Nat.add_sub_cancel, List.getElem?_append_right (Nat.le_refl _), Nat.sub_self]
      rfl
theorem under_path {a b : Vec 32} (ha : has t N a = true) (hb : has t N b = true) : under t N a b = (decide (b = t.root) || decide (b ∈ pathOf t N a)) := by
  unfold under pathOf
  rw [ha, hb, if_pos rfl]
  simp
theorem blk_h (hw : TrW t N) {k : Vec 32} (hk : has t N k = true) (hr : k ≠ t.root) : (nb k N).1.h = t.ht + (hgt t N k : Int) := by
  rw [← lev_hgt hw hk]
  unfold levH
  rw [if_neg hr, has_blk hk hr]
end
end Go.Fx
set_option linter.unusedVariables false
set_option linter.unusedSimpArgs false
namespace Go.Fx
section
variable {w0 w : World} {As : List Asn}
/-- slices.Equal on names. -/
theorem idsEqual_spec {u v : Value} {a b : List (Vec 32)} (ha : Rows' (rVec 32) w.heap u a) (hb : Rows' (rVec 32) w.heap v b) (hl : a.length ≤ 1000000) : cal P f_slices_Equal_api_ID_api_ID [u, v] w fun r w' => r = .bool (decide (a = b)) ∧ Fr [] w w' := by
  refine s_slices_Equal_api_ID_api_ID fun R hR => ?_
  unfold c_slices_Equal_api_ID_api_ID
  simp only [ha.len, hb.len, fx, Nat.reduceAdd, forall_const]
  rw [cnd_bool]
  refine ⟨fun h => ?_, fun h => ?_⟩
  · have h : a.length ≠ b.length := by simp at h; omega
    exact hR _ _ ⟨by rw [decide_eq_false (fun he => h (by rw [he]))], Fr.refl _ _⟩
  have hab : a.length = b.length := by simp at h; omega
  refine ⟨fun y z => ∃ i : Nat, y = .int .i64 i ∧ i ≤ a.length ∧ a.take i = b.take i ∧ Fr [] w z, fun y _ => (a.length - RowKit.intOf y).toNat, ⟨0, rfl, by omega, by simp, Fr.refl _ _⟩, ?_⟩
  rintro _ w1 ⟨i, rfl, hi, ht, hf⟩ -
  simp only [fx, Nat.reduceAdd, forall_const]
  rw [cnd_bool]
  refine ⟨fun h => ?_, fun h => ?_⟩
  · have hlt : i < a.length := by simp at h; omega
    obtain ⟨x, hx⟩ : ∃ x, a[i]? = some x := ⟨_, List.getElem?_eq_getElem hlt⟩
    obtain ⟨y, hy⟩ : ∃ y, b[i]? = some y := ⟨_, List.getElem?_eq_getElem (by omega)⟩
    refine drw_s ((Sep.start w).old hf) fun w2 hs2 _ => ?_
    change ixs 32 _ _ _
    refine Rows'.ldN (q := rVec 32) (by decide) (ha.fr hs2.fr0) hx .i64 ?_
    change ixs 32 _ _ _
    refine Rows'.ldN (q := rVec 32) (by decide) (hb.fr hs2.fr0) hy .i64 ?_
    rw [ne_api_ID, cnd_bool]
    refine ⟨fun h => ?_, fun h => ?_⟩
    · have h : ¬ x = y := by simpa using h
      refine hR _ _ ⟨?_, hs2.fr0⟩
      rw [decide_eq_false fun he => h (by rw [he, hy] at hx; simpa using hx.symm)]
    · have h : x = y := by simpa using h
      rw [wi64 (by omega) (by omega)]
      exact ⟨⟨i + 1, by simp, by omega, by rw [List.take_add_one, List.take_add_one, ht, hx, hy, h], hs2.fr0⟩, by simp [RowKit.intOf]; omega⟩
  · have hge : i = a.length := by simp at h; omega
    rw [hge, List.take_of_length_le (Nat.le_refl _), List.take_of_length_le (by omega)] at ht
    exact hR _ _ ⟨by rw [decide_eq_true ht], hf⟩
end
section
variable {w0 w : World} {As : List Asn}
end
end Go.Fx
set_option linter.unusedVariables false
set_option linter.unusedSimpArgs false
namespace Go.Fx
abbrev nms (N : List TN) : List (Vec 32) := N.map (·.1)
section
variable {w0 w : World} {As : List Asn}
theorem bldI {r : Vec 32} {K : Value → World → Prop} {Bs : List Asn} (hs : Sep w0 w Bs) (hk : ∀ a z, Sep w0 z (rows (rVec 32) a [r] :: Bs) → K a z) : efP P (Instr.buildSlice T_sl_api_ID 1 #[(0, kv r)]) w K :=
  rows_lit hs S_sl_api_ID (l := [r]) (V := fun a => .agg (Rdr.cells (rVec 32) a).toArray) (fun a => rfl) rfl rfl (by decide) (by decide) fun g7 w7 hs7 => hk _ _ hs7
theorem appI {r : Vec 32} {x a : Value} {ids : List (Vec 32)} {K : Value → World → Prop} {Bs : List Asn} (hs : Sep w0 w (rows (rVec 32) x ids :: Bs)) (ha : Rows' (rVec 32) w.heap a [r]) (hl : ids.length ≤ 1000000)
    (hk : ∀ x' z, Sep w0 z (rows (rVec 32) x' (ids ++ [r]) :: Bs) → K x' z) : efP P (Builtin.append_ #[T_sl_api_ID, T_sl_api_ID] T_sl_api_ID #[x, a]) w K :=
  rows_app S_sl_api_ID U_sl_api_ID (by simp) hs ha (by simp only [List.flatMap_cons, List.flatMap_nil, List.append_nil]; exact oneVec) (by simp; omega) (by simp; omega) fun v8 w8 hs8 => hk _ _ hs8
end
end Go.Fx
set_option linter.unusedVariables false
set_option linter.unusedSimpArgs false
namespace Go.Fx
/-- A tree to which blocks were added, and whose root was moved; no block is higher than m above the root. -/
structure TM (t : Tr) (N : List TN) (m : Nat) : Prop where
  w : TrW t N
  nd : (N.map (·.1)).Nodup
  hb : ∀ k, has t N k = true → hgt t N k ≤ m
  hi : ∀ x ∈ N, x.2.1.h ≤ maxI
  ht : 0 ≤ t.ht
section
variable {t : Tr} {N : List TN} {m : Nat}
theorem TI.tm (h : TI t N) : TM t N N.length := ⟨h.w, h.nd, h.hb, h.hi, h.ht⟩
theorem TM.mono {m' : Nat} (h : TM t N m) (hm : m ≤ m') : TM t N m' := ⟨h.w, h.nd, fun k hk => Nat.le_trans (h.hb k hk) hm, h.hi, h.ht⟩
theorem TM.nil (h : 0 ≤ t.ht) : TM t [] m := (TI.nil h).tm.mono (Nat.zero_le _)
theorem TM.add {b : Blk} {vd : Value} {c : Nat} (hi : TM t N m) (h : addE t N b = 0) (hm : b.h ≤ maxI) : TM t (N ++ [(b.id, b, vd, c)]) (m + 1) := by
  obtain ⟨h1, h2, h3, h4, h5, h6⟩ := addE_ok h
  have hnm : b.id ∉ N.map (·.1) := fun hm => by rw [mem_has (.inr hm)] at h2; cases h2
  have hnr : b.id ≠ t.root := fun he => by rw [mem_has (.inl he)] at h2; cases h2
  refine ⟨hi.w.add h, ?_, fun k hk => ?_, fun x hx => ?_, hi.ht⟩
  · rw [List.map_append, List.nodup_append]
    refine ⟨hi.nd, by simp, fun x hx y hy => ?_⟩
    simp only [List.map_cons, List.map_nil, List.mem_singleton] at hy
    subst hy
    intro he
    exact hnm (he ▸ hx)
  · by_cases hold : has t N k = true
    · have h7 := has_old (x := (b.id, b, vd, c)) hold
      have h8 := hi.hb k hold
      unfold hgt at h8 ⊢
      rw [h7.2]
      omega
    · have hk' : k = b.id := by
        rcases has_mem hk with rfl | hm'
        · exact absurd (mem_has (.inl rfl)) hold
        · rw [List.map_append, List.mem_append] at hm'
          rcases hm' with hm' | hm'
          · exact absurd (mem_has (.inr hm')) hold
          · simpa using hm'
      subst hk'
      have h8 := hi.hb _ h3
      have hl := lev_hgt hi.w h3
      have hb : blkOf b.id (N ++ [(b.id, b, vd, c)]) = some b := by
        rw [blkOf_snoc]
        have : blkOf b.id N = none := by
          unfold has at h2
          simp only [Bool.or_eq_false_iff] at h2
          simpa using h2.2
        rw [this]
        simp
      have : levH t (N ++ [(b.id, b, vd, c)]) b.id = b.h := by
        unfold levH
        rw [if_neg hnr, hb]
      unfold hgt
      rw [this, h5, hl]
      omega
  · rcases List.mem_append.1 hx with hx | hx
    · exact hi.hi x hx
    · obtain rfl : x = (b.id, b, vd, c) := by simpa using hx
      exact hm
theorem nodeOf_filter (p : Vec 32 → Bool) (k : Vec 32) : ∀ N : List TN, nodeOf k (N.filter fun x => p x.1) = if p k = true then nodeOf k N else none
  | [] => by simp [nodeOf]
  | x :: N => by
    have ih := nodeOf_filter p k N
    unfold nodeOf at ih ⊢
    by_cases hk : k = x.1
    · subst hk
      by_cases hp : p x.1 = true
      · rw [List.filter_cons_of_pos (p := fun x : TN => p x.1) hp, if_pos hp]
        simp
      · rw [List.filter_cons_of_neg (p := fun x : TN => p x.1) hp, ih, if_neg hp, if_neg hp]
    · rw [List.find?_cons_of_neg (by simpa using hk), ← ih]
      by_cases hp : p x.1 = true
      · rw [List.filter_cons_of_pos (p := fun x : TN => p x.1) hp, List.find?_cons_of_neg (by simpa using hk)]
      · rw [List.filter_cons_of_neg (p := fun x : TN => p x.1) hp]
theorem blkOf_filter (p : Vec 32 → Bool) (k : Vec 32) (N : List TN) : blkOf k (N.filter fun x => p x.1) = if p k = true then blkOf k N else none := by
  unfold blkOf
  rw [nodeOf_filter]
  split <;> rfl
theorem nb_filter (p : Vec 32 → Bool) (k : Vec 32) (N : List TN) (h : p k = true) : nb k (N.filter fun x => p x.1) = nb k N := by
  unfold nb
  rw [nodeOf_filter, if_pos h]
theorem mvN_eq (t : Tr) (N : List TN) (k : Vec 32) : mvN t N k = N.filter fun x => (fun y => !decide (y = k) && under t N y k) x.1 := rfl
theorem mv_blk {k x : Vec 32} : blkOf x (mvN t N k) = if x ≠ k ∧ under t N x k = true then blkOf x N else none := by
  rw [mvN_eq, blkOf_filter (fun y => !decide (y = k) && under t N y k)]
  by_cases h1 : x = k <;> by_cases h2 : under t N x k = true <;> simp [h1, h2]
theorem blk_has {k : Vec 32} {b : Blk} (h : blkOf k N = some b) : has t N k = true := by unfold has; rw [h]; simp
theorem blk_nroot (hw : TrW t N) {k : Vec 32} {b : Blk} (h : blkOf k N = some b) : k ≠ t.root := fun he => by rw [he, hw.noroot] at h; cases h
theorem mvOk_spec {k : Vec 32} (h : mvOk t N k = true) : blkOf k N = some (nb k N).1 ∧ upOf k N = t.root := by
  unfold mvOk at h
  simp only [Bool.and_eq_true, decide_eq_true_eq] at h
  refine ⟨?_, h.2⟩
  rcases nb_blk (k := k) (N := N) with ⟨h1, _⟩ | h1
  · rw [h1] at h; cases h.1
  · exact h1
/-- Who is under the child: its parent is, or is the child. -/
theorem mv_up (hw : TrW t N) {k x : Vec 32} (hk : mvOk t N k = true) (hx : has t N x = true) (hne : x ≠ k) (hu : under t N x k = true) : x ≠ t.root ∧ has t N (upOf x N) = true ∧ (upOf x N = k ∨ under t N (upOf x N) k = true) := by
  obtain ⟨hkb, hkp⟩ := mvOk_spec hk
  have hkh : has t N k = true := blk_has hkb
  have hkr := blk_nroot hw hkb
  rw [under_path hx hkh] at hu
  simp only [Bool.or_eq_true, decide_eq_true_eq] at hu
  have hu : k ∈ pathOf t N x := hu.resolve_left hkr
  have hxr : x ≠ t.root := fun he => by rw [he, path_root] at hu; cases hu
  have h2 := (up_has hw hx hxr).1
  refine ⟨hxr, h2, ?_⟩
  rw [path_step hw hx hxr, List.mem_append] at hu
  rcases hu with hu | hu
  · right
    rw [under_path h2 hkh, decide_eq_true hu, Bool.or_true]
  · exact absurd (by simpa using hu) (Ne.symm hne)
theorem mv_has {k x : Vec 32} (hw : TrW t N) (hk : mvOk t N k = true) (h : has (mvT t N k) (mvN t N k) x = true) : has t N x = true ∧ levH (mvT t N k) (mvN t N k) x = levH t N x := by
  obtain ⟨hkb, hkp⟩ := mvOk_spec hk
  by_cases hx : x = k
  · subst hx
    refine ⟨blk_has hkb, ?_⟩
    unfold levH
    rw [if_pos (show x = (mvT t N x).root from rfl), if_neg (blk_nroot hw hkb), hkb]
    rfl
  · have hb := has_blk h (show x ≠ (mvT t N k).root from hx)
    have hb2 := hb
    rw [mv_blk] at hb
    split at hb
    · rename_i hu
      refine ⟨blk_has hb, ?_⟩
      unfold levH
      rw [if_neg (show x ≠ (mvT t N k).root from hx), if_neg (blk_nroot hw hb), hb2, hb]
    · cases hb
theorem TM.move {k : Vec 32} (hi : TM t N m) (hk : mvOk t N k = true) : TM (mvT t N k) (mvN t N k) m := by
  have hw := hi.w
  obtain ⟨hkb, hkp⟩ := mvOk_spec hk
  have hkh : has t N k = true := blk_has hkb
  have hkr := blk_nroot hw hkb
  have hkl : levH t N k = (nb k N).1.h := by unfold levH; rw [if_neg hkr, hkb]
  have hmem : ∀ x b, blkOf x (mvN t N k) = some b → x ≠ k ∧ under t N x k = true ∧ blkOf x N = some b := fun x b h => by
    rw [mv_blk] at h
    split at h
    · rename_i hu; exact ⟨hu.1, hu.2, h⟩
    · cases h
  have hpar : ∀ x b, blkOf x (mvN t N k) = some b → has (mvT t N k) (mvN t N k) b.p = true := fun x b h => by
    obtain ⟨h1, h2, h3⟩ := hmem x b h
    obtain ⟨h4, h5, h6⟩ := mv_up hw hk (blk_has h3) h1 h2
    have e : b.p = upOf x N := by
      have := has_blk (blk_has (t := t) h3) h4
      rw [h3] at this
      simp only [Option.some.injEq] at this
      unfold upOf
      rw [← this]
    rw [e]
    by_cases hp : upOf x N = k
    · rw [hp]; exact mem_has (.inl rfl)
    · have hu := h6.resolve_left hp
      have hpr : upOf x N ≠ t.root := fun he => by
        rw [he, under_path (mem_has (.inl rfl)) hkh, path_root] at hu
        simp [hkr] at hu
      unfold has
      rw [mv_blk, if_pos ⟨hp, hu⟩, has_blk h5 hpr]
      simp
  have hgt : ∀ x b, blkOf x (mvN t N k) = some b → (nb k N).1.h < b.h := fun x b h => by
    obtain ⟨h1, h2, h3⟩ := hmem x b h
    have hxh := blk_has (t := t) h3
    rw [under_path hxh hkh] at h2
    simp only [Bool.or_eq_true, decide_eq_true_eq] at h2
    have h2 : k ∈ pathOf t N x := h2.resolve_left hkr
    obtain ⟨j, hj⟩ := List.mem_iff_getElem?.1 h2
    have h4 := path_at hw x hxh j k hj
    have hxr : x ≠ t.root := fun he => by rw [he, path_root] at h2; cases h2
    have hlx := path_len hw x hxh
    have hjl := (List.getElem?_eq_some_iff.1 hj).1
    have hlast : (pathOf t N x)[(pathOf t N x).length - 1]? = some x := by
      rw [path_step hw hxh hxr]
      simp
    have hjne : j ≠ (pathOf t N x).length - 1 := fun he => by
      rw [he, hlast] at hj
      exact h1 (by simpa using hj)
    have hbx := blk_h hw hxh hxr
    have hbk := blk_h hw hkh hkr
    have e : (nb x N).1 = b := by
      have := has_blk hxh hxr
      rw [h3] at this
      simpa using this.symm
    rw [e] at hbx
    omega
  refine ⟨⟨fun x b h => ⟨hpar x b h, ?_⟩, hgt, ?_, fun x hx => hw.small x (List.mem_filter.1 hx).1⟩, ?_, fun x hx => ?_, fun x hx => hi.hi x (List.mem_filter.1 hx).1, ?_⟩
  · rw [(mv_has hw hk (hpar x b h)).2]
    exact (hw.up x b (hmem x b h).2.2).2
  · rw [mv_blk]
    exact if_neg fun h => h.1 rfl
  · exact hi.nd.sublist (List.filter_sublist.map _)
  · obtain ⟨h1, h2⟩ := mv_has hw hk hx
    have h3 := hi.hb x h1
    have h4 := hw.above k _ hkb
    unfold Go.Fx.hgt at h3 ⊢
    rw [h2]
    show (levH t N x - (nb k N).1.h).toNat ≤ m
    omega
  · have h4 := hw.above k _ hkb
    have h5 := hi.ht
    show 0 ≤ (nb k N).1.h
    omega
end
end Go.Fx
set_option linter.unusedVariables false
set_option linter.unusedSimpArgs false
namespace Go.Fx
/-- A node's cells. -/
def TN.nd (x : TN) : Vec 32 × Vec 32 × Int × Value := (x.1, x.2.1.p, x.2.1.h, x.2.2.1)
section
variable {w0 w w' : World} {As : List Asn} {g : Nat} {lv : Value} {t : Tr} {N : List TN}
end
end Go.Fx
set_option linter.unusedVariables false
set_option linter.unusedSimpArgs false
namespace Go.Fx
/-- An effect that is a cut, behind which whatever holds. -/
theorem efC_cut {f : World → (Value → World → Prop) → Prop} {w : World} {K : (World → Prop) → Value → World → Prop} (h : f w fun v w' => ∃ S : World → Prop, S w' ∧ K S v w') : efC f w K := h
/-- An iterator of n values: what it hands over at place i is known by 'arg'; M: the memory that it looks at is as it was. -/
def Iter (P : Program) (g : Value) (M : Heap → Prop) (n : Nat) (arg : Nat → World → List Value → Prop) : Prop :=
  ∃ gf cap, g = .func (.func gf) #[] cap ∧ callable P gf = true ∧ ∀ (y : Value) (w0 w : World) (J : Nat → List Asn → Prop) (X : List Asn → Prop) (As : List Asn), y.oneCell' = true → J 0 As → Sep w0 w As →
    (∀ i Bs Ls z, J i Bs → Sep w0 z (Bs ++ Ls) → M z.heap) →
    (∀ i args z Bs Ls, i < n → arg i z args → J i Bs → Sep w0 z (Bs ++ Ls) → calY P y args z fun r z' => (r = .bool true ∧ ∃ Cs, J (i + 1) Cs ∧ Sep w0 z' (Cs ++ Ls)) ∨ (r = .bool false ∧ ∃ Cs, X Cs ∧ Sep w0 z' (Cs ++ Ls))) →
    cal P gf (y :: cap.toList) w fun r z' => r = .tuple #[] ∧ ((∃ Cs, J n Cs ∧ Sep w0 z' Cs) ∨ ∃ Cs, X Cs ∧ Sep w0 z' Cs)
section
variable {w0 w w' : World} {As Bs : List Asn}
theorem Sep.rot (h : Sep w0 w (As ++ Bs)) : Sep w0 w (Bs ++ As) := h.perm List.perm_append_comm
theorem Sep.objUpd {g : Nat} {o : Obj} (o' : Obj) (h : Sep w0 w (.obj g o :: As)) : Sep w0 (setBlk w g o') (.obj g o' :: As) := by
  obtain ⟨F, ⟨hb, rfl⟩, hk⟩ := h.upd
  exact hk _ [g] (.obj g o') ⟨setBlk_self w g _ _ hb, rfl⟩ (fr_setBlk w g _) (Grew.refl _ _)
theorem Sep.objAt {g : Nat} {o : Obj} (h : Sep w0 w (.obj g o :: As)) : w.heap[g]? = some o := by
  obtain ⟨F, ⟨hb, rfl⟩, hk⟩ := h.upd
  exact hb
theorem takeD_s {D : Nat} {K : World → Prop} (hs : Sep w0 w (.obj D dfB :: As)) (h : ∀ w', Sep w0 w' As → K w') : takeD [D] w K :=
  ⟨hs.objAt, h _ (hs.objUpd _).tail⟩
theorem rng_s {P : Program} {g : Value} {M : Heap → Prop} {n k : Nat} {arg : Nat → World → List Value → Prop} {rnd : List Value → World → (World → (World → Prop) → Prop) → (Option Code → World → Prop) → Prop}
    {out : Nat → List (Option Code × (World → Prop))} (hs : Sep w0 w As) (hit : Iter P g M n arg) (hk : ∀ i z args, arg i z args → args.length = k)
    (J : Nat → List Asn → Prop) (X : Code → List Asn → Prop) (h0 : J 0 As) (hM : ∀ i Bs Ls z, J i Bs → Sep w0 z (Bs ++ Ls) → M z.heap)
    (hrnd : ∀ (i : Nat) (args : List Value) (z : World) (Bs LR LB : List Asn) (bg : World → (World → Prop) → Prop) (fin : Option Code → World → Prop), i < n → J i Bs → arg i z args → Sep w0 z (Bs ++ LR) →
      (∀ z' Cs K, Sep w0 z' (Cs ++ LR) → (∀ z'', Sep w0 z'' (Cs ++ LB) → K z'') → bg z' K) →
      (∀ z' Cs, J (i + 1) Cs → Sep w0 z' (Cs ++ LB) → fin none z') → (∀ j z' Cs, X j Cs → Sep w0 z' (Cs ++ LB) → fin (some j) z') → rnd args z bg fin)
    (hN : ∀ D Bs z, J n Bs → Sep w0 z (.obj D dfB :: Bs) → outL none z (out D)) (hX : ∀ D j Bs z, X j Bs → Sep w0 z (.obj D dfB :: Bs) → outL (some j) z (out D)) : rng P g k w rnd out := by
  obtain ⟨gf, cap, hg, hcal, hI⟩ := hit
  refine ⟨gf, cap, hg, hcal, fun y rec h1 hy => ?_⟩
  have swap2 : ∀ {z : World} {Cs : List Asn} {A B : Asn}, Sep w0 z (Cs ++ [A, B]) → Sep w0 z (A :: B :: Cs) := fun h => Sep.rot h
  have swap3 : ∀ {z : World} {Cs : List Asn} {A B : Asn}, Sep w0 z (A :: B :: Cs) → Sep w0 z (Cs ++ [A, B]) := fun {z Cs A B} h => Sep.rot (As := [A, B]) h
  -- the record at the head, and back
  have hd : ∀ {z : World} {Cs Ls : List Asn} {A : Asn}, Sep w0 z (Cs ++ (A :: Ls)) → Sep w0 z (A :: (Cs ++ Ls)) := fun h => h.perm List.perm_middle
  have bk : ∀ {z : World} {Cs Ls : List Asn} {A : Asn}, Sep w0 z (A :: (Cs ++ Ls)) → Sep w0 z (Cs ++ (A :: Ls)) := fun h => h.perm List.perm_middle.symm
  refine cal_i (hI y w0 _ (fun i Bs => ∃ Cs, J i Cs ∧ Bs = Cs ++ [.obj (w.heap.size + 1) (rec .ready none), .obj w.heap.size dfB])
    (fun Bs => ∃ j Cs, X j Cs ∧ Bs = Cs ++ [.obj (w.heap.size + 1) (rec .done (some j)), .obj w.heap.size dfB]) (As ++ [.obj (w.heap.size + 1) (rec .ready none), .obj w.heap.size dfB]) h1 ⟨As, h0, rfl⟩ (swap3 ?_) ?_ ?_) ?_
  · have h2 : Sep w0 (w.alloc dfB) (.obj w.heap.size dfB :: As) := hs.new (F' := [w.heap.size]) (fr_alloc w _) (B := .obj w.heap.size dfB) ⟨alloc_new w _, rfl⟩ (by simp)
    have e : (w.alloc dfB).heap.size = w.heap.size + 1 := by simp
    refine h2.new (F' := [w.heap.size + 1]) (fr_alloc _ _) (B := .obj (w.heap.size + 1) (rec .ready none)) ⟨?_, rfl⟩ (by simp)
    have := alloc_new (w.alloc dfB) (rec .ready none)
    rwa [e] at this
  · rintro i _ Ls z ⟨Cs, hJ, rfl⟩ hB
    rw [List.append_assoc] at hB
    exact hM i Cs _ z hJ hB
  · rintro i args z _ Ls hi harg ⟨Bs, hJ, rfl⟩ hB
    rw [List.append_assoc] at hB
    refine hy args z _ (hk i z args harg) (hd hB).objAt ?_
    refine hrnd i args z Bs _ (.obj (w.heap.size + 1) (rec .busy none) :: .obj w.heap.size dfB :: Ls) _ _ hi hJ harg hB ?_ ?_ ?_
    · intro z' Cs K hz hK
      exact ⟨(hd hz).objAt, hK _ (bk ((hd hz).objUpd _))⟩
    · intro z' Cs hC hz
      exact ⟨(hd hz).objAt, .inl ⟨rfl, _, ⟨Cs, hC, rfl⟩, by rw [List.append_assoc]; exact bk ((hd hz).objUpd _)⟩⟩
    · intro j z' Cs hC hz
      exact ⟨(hd hz).objAt, .inr ⟨rfl, _, ⟨j, Cs, hC, rfl⟩, by rw [List.append_assoc]; exact bk ((hd hz).objUpd _)⟩⟩
  · rintro v z ⟨-, ⟨_, ⟨Bs, hJ, rfl⟩, hB⟩ | ⟨_, ⟨j, Bs, hX', rfl⟩, hB⟩⟩
    · exact ⟨none, (swap2 hB).objAt, hN _ Bs _ hJ ((swap2 hB).objUpd _).tail⟩
    · exact ⟨some j, (swap2 hB).objAt, hX _ j Bs _ hX' ((swap2 hB).objUpd _).tail⟩
end
end Go.Fx
set_option linter.unusedVariables false
set_option linter.unusedSimpArgs false
namespace Go.Fx
section
variable {w0 w w' : World} {As : List Asn} {g : Nat} {lv : Value} {t : Tr} {N : List TN}
end
end Go.Fx
set_option linter.unusedVariables false
set_option linter.unusedSimpArgs false
namespace Go.Fx
section
variable {P : Program} {n : Nat} {w0 w : World} {As : List Asn}
abbrev mit (gi gm c : Nat) (D : List (Ent n)) : Asn := Asn.obj gi (.mapIter (some gm) c (D.map (·.2.2)).toArray c)
theorem range_s {M T V gm c : Nat} {E : List (Ent n)} {K : Value → World → Prop} (hM : P.underlying M = some (.map T V)) (hs : Sep w0 w As) (hm : w.heap[gm]? = some (.map (ents E) c))
    (h : ∀ gi w', Sep w0 w' (mit (n := n) gi gm c [] :: As) → K (.pointer (some ⟨gi, 0, none⟩)) w') : efP P (Instr.range M (.map (some gm))) w K := by
  refine ⟨.pointer (some ⟨w.heap.size, 0, none⟩), w.alloc (.mapIter (some gm) c #[] c), ?_, h _ _ (hs.new (fr_alloc w _) (B := mit w.heap.size gm c []) ⟨alloc_new w _, rfl⟩ (by simp))⟩
  unfold Instr.range
  simp only [Sem.run_bind, run_underlying hM, Result.andThen_ok, get_map hm, Sem.run_pure]
  rfl
theorem mem_left {E : List (Ent n)} {D : List (Ent n)} {e : MapEntry} : e ∈ (leftOf (ents E) (D.map (·.2.2)).toArray).toList ↔ ∃ x ∈ E, e = entM x ∧ x.2.2 ∉ D.map (·.2.2) := by
  unfold leftOf ents
  simp only [Array.toList_filter, List.mem_filter, List.mem_map, Bool.not_eq_true', Array.contains_toList, List.contains_toArray]
  constructor
  · rintro ⟨⟨x, hx, rfl⟩, h⟩
    refine ⟨x, hx, rfl, ?_⟩
    rintro ⟨y, hy, he⟩
    have : (List.map (fun x => x.2.2) D).contains (entM x).born = true := by
      rw [List.contains_iff_mem]
      exact List.mem_map.2 ⟨y, hy, he⟩
    rw [h] at this
    cases this
  · rintro ⟨x, hx, rfl, h⟩
    refine ⟨⟨x, hx, rfl⟩, ?_⟩
    cases hc : (List.map (fun x => x.2.2) D).contains (entM x).born with
    | false => rfl
    | true =>
      rw [List.contains_iff_mem] at hc
      exact absurd (List.mem_map.1 hc) h
theorem next_s {gi gm c ty : Nat} {E D : List (Ent n)} {K : Value → World → Prop} (hs : Sep w0 w (mit gi gm c D :: As)) (hm : w.heap[gm]? = some (.map (ents E) c)) (hlt : ∀ x ∈ E, x.2.2 < c)
    (hend : (∀ x ∈ E, x.2.2 ∈ D.map (·.2.2)) → K (.tuple #[.bool false]) w)
    (hstep : ∀ x w', x ∈ E → x.2.2 ∉ D.map (·.2.2) → w'.heap[gm]? = some (.map (ents E) c) → Sep w0 w' (mit gi gm c (D ++ [x]) :: As) → K (.tuple #[.bool true, kv x.1, x.2.1]) w') :
    efP P (Instr.next (.pointer (some ⟨gi, 0, none⟩)) false ty) w K := by
  have hg : w.heap[gi]? = some (.mapIter (some gm) c (D.map (·.2.2)).toArray c) := by
    obtain ⟨F, ⟨hb, rfl⟩, hk⟩ := hs.upd
    exact hb
  have hne : gm ≠ gi := fun he => by rw [he, hg] at hm; cases hm
  rcases run_next_at (P := P) w ty gi gm c c (D.map (·.2.2)).toArray (ents E) c hg hm (fun x hx => by
      obtain ⟨y, hy, rfl⟩ : ∃ y ∈ E, entM y = x := by simpa [ents] using hx
      exact hlt y hy) (Nat.le_refl _) with ⟨h0, hr⟩ | ⟨e, he, w1, hw1, hr⟩
  · refine ⟨_, _, hr, hend fun x hx => ?_⟩
    cases hc : decide (x.2.2 ∈ D.map (·.2.2)) with
    | true => exact of_decide_eq_true hc
    | false =>
      have := mem_left.2 ⟨x, hx, rfl, of_decide_eq_false hc⟩
      have h1 : (leftOf (ents E) (D.map (·.2.2)).toArray).toList = [] := List.eq_nil_of_length_eq_zero (by simpa using h0)
      rw [h1] at this
      cases this
  · obtain ⟨x, hx, rfl, hn⟩ := mem_left.1 he
    refine ⟨_, _, hr, ?_⟩
    have hs1 : Sep w0 w1 (mit gi gm c D :: As) := by
      rcases hw1 with rfl | rfl
      · exact hs
      · exact hs.drew _
    have hm1 : w1.heap[gm]? = some (.map (ents E) c) := by rcases hw1 with rfl | rfl <;> exact hm
    obtain ⟨F, ⟨hb, rfl⟩, hk⟩ := hs1.upd
    have e1 : (D.map (·.2.2)).toArray.push (entM x).born = ((D ++ [x]).map (·.2.2)).toArray := by
      apply Array.ext'
      simp [entM]
    rw [e1]
    refine hstep x _ hx hn ?_ (hk _ [gi] (mit gi gm c (D ++ [x])) ⟨setBlk_self w1 gi _ _ hb, rfl⟩ (fr_setBlk w1 gi _) (Grew.refl _ _))
    show (setBlk w1 gi _).heap[gm]? = _
    rw [setBlk_ne w1 _ hne]
    exact hm1
theorem entry_i {gi gm c : Nat} {E D : List (Ent n)} {x : Ent n} {h : Heap} (hg : w.heap[gi]? = some (.mapIter (some gm) c ((D ++ [x]).map (·.2.2)).toArray c)) (hm : w.heap[gm]? = some (.map (ents E) c)) (hx : x ∈ E) (hb : (E.map (·.2.2)).Nodup) (K : Value → Prop) :
    rdP P (Instr.entry (.pointer (some ⟨gi, 0, none⟩))) w K = K (.tuple #[kv x.1, x.2.1]) := by
  refine rdP_eq ?_ K
  have e1 : (D.map (·.2.2)).toArray.push (entM x).born = ((D ++ [x]).map (·.2.2)).toArray := by
    apply Array.ext'
    simp [entM]
  rw [← e1] at hg
  exact run_entry_at w gi gm c _ (ents E) c (entM x) hg hm (by simp only [ents, List.mem_map]; exact ⟨x, hx, rfl⟩) (by
    have : (ents E).toList.map (·.born) = E.map (·.2.2) := by simp [ents, entM, Function.comp_def]
    rw [this]; exact hb)
/-- A key's value, by the entries. -/
theorem getE_iff {k : Vec n} {v : Value} : ∀ {l : List (Ent n)}, (l.map (·.1)).Nodup → (getE k l = some v ↔ ∃ x ∈ l, x.1 = k ∧ x.2.1 = v)
  | [], _ => by simp [getE]
  | y :: l, hn => by
    rw [List.map_cons, List.nodup_cons] at hn
    have ih := getE_iff (k := k) (v := v) hn.2
    unfold getE at ih ⊢
    by_cases hk : k = y.1
    · subst hk
      rw [List.find?_cons_of_pos (by simp)]
      simp only [Option.map_some, Option.some.injEq]
      constructor
      · intro h; exact ⟨y, by simp, rfl, h⟩
      · rintro ⟨x, hx, h1, h2⟩
        rcases List.mem_cons.1 hx with rfl | hx
        · exact h2
        · exact absurd (h1 ▸ List.mem_map_of_mem hx) hn.1
    · rw [List.find?_cons_of_neg (by simpa using hk), ih]
      constructor
      · rintro ⟨x, hx, h⟩; exact ⟨x, by simp [hx], h⟩
      · rintro ⟨x, hx, h1, h2⟩
        rcases List.mem_cons.1 hx with rfl | hx
        · exact absurd h1.symm hk
        · exact ⟨x, hx, h1, h2⟩
theorem getE_perm {k : Vec n} {l m : List (Ent n)} (hp : l.Perm m) (hn : (l.map (·.1)).Nodup) : getE k l = getE k m := by
  have hn2 : (m.map (·.1)).Nodup := (hp.map _).nodup_iff.1 hn
  cases h1 : getE k l with
  | some v =>
    obtain ⟨x, hx, h⟩ := (getE_iff hn).1 h1
    exact ((getE_iff hn2).2 ⟨x, hp.mem_iff.1 hx, h⟩).symm
  | none =>
    cases h2 : getE k m with
    | none => rfl
    | some v =>
      obtain ⟨x, hx, h⟩ := (getE_iff hn2).1 h2
      rw [(getE_iff hn).2 ⟨x, hp.mem_iff.2 hx, h⟩] at h1
      cases h1
theorem getE_same {k : Vec n} : ∀ {l m : List (Ent n)}, l.map (fun x => (x.1, x.2.1)) = m.map (fun x => (x.1, x.2.1)) → getE k l = getE k m
  | [], [], _ => rfl
  | [], _ :: _, h => by simp at h
  | _ :: _, [], h => by simp at h
  | x :: l, y :: m, h => by
    simp only [List.map_cons, List.cons.injEq, Prod.mk.injEq] at h
    have ih := getE_same (k := k) h.2
    unfold getE at ih ⊢
    by_cases hk : k = x.1
    · rw [List.find?_cons_of_pos (by simpa using hk), List.find?_cons_of_pos (by rw [← h.1.1]; simpa using hk)]
      simp [h.1.2]
    · rw [List.find?_cons_of_neg (by simpa using hk), List.find?_cons_of_neg (by rw [← h.1.1]; simpa using hk)]
      exact ih
end
end Go.Fx
set_option linter.unusedVariables false
set_option linter.unusedSimpArgs false
namespace Go.Fx
/-- How many entries an iterator has told. -/
def itSeen (gi : Nat) (z : World) : Nat := match z.heap[gi]? with
  | some (.mapIter _ _ seen _) => seen.size
  | _ => 0
section
variable {w0 w w' : World} {As : List Asn} {g gm c : Nat} {ov : Value} {t : Tr} {N : List TN}
theorem idsClone_spec {v : Value} {l : List (Vec 32)} (hv : Rows' (rVec 32) w.heap v l) (hl : l.length ≤ 1000000) : cal P f_slices_Clone_api_ID_api_ID [v] w fun r w' => Sep w w' [rows (rVec 32) r l] := by
  refine s_slices_Clone_api_ID_api_ID fun R hR => ?_
  unfold c_slices_Clone_api_ID_api_ID
  obtain ⟨a, c, rfl, hl', hh⟩ := id hv
  cases a with
  | none =>
    have h0 : l = [] := by
      rcases hh with h0 | ⟨_, _, _, _, _, h, _⟩
      · refine List.eq_nil_of_length_eq_zero ?_
        have : (rVec 32).size = 32 := rfl
        rw [this] at h0
        omega
      · cases h
    subst h0
    simp only [fx, Nat.reduceAdd, forall_const]
    exact hR _ _ (Sep.start w).nilR
  | some a =>
    simp only [fx, Nat.reduceAdd, forall_const]
    have hb1 : ∀ w : World, (Instr.buildSlice T_sl_api_ID 0 #[]).run P w = .ok (.slice (some ⟨w.heap.size, 0, none⟩) 0 0) (w.alloc (.cells ([] : List Value).toArray T_api_ID)) := fun w => by kernel_rfl
    refine build_s (size := 32) (Sep.start w) (cs := []) rfl (hb1 w) fun g w1 hs1 => ?_
    replace hs1 : Sep w w1 [rows (rVec 32) (.slice (some ⟨g, 0, none⟩) 0 0) []] := hs1
    refine rows_app S_sl_api_ID U_sl_api_ID (by simp) hs1 (hv.fr hs1.fr0) ?_ (by simp; omega) (by simp; omega) fun v8 w8 hs8 => ?_
    · intro u hu
      obtain ⟨x, hx, hu⟩ := List.mem_flatMap.1 hu
      exact oneVec u hu
    · exact hR _ _ (by simpa using hs8)
theorem tClone_spec (hr : TrR w.heap g gm ov t N c) (hn : N.length ≤ 1000000) : cal P f_tree_Tree_Clone [.pointer (some ⟨g, 0, none⟩)] w fun r w' => ∃ g' gm' ov' c', r = .pointer (some ⟨g', 0, none⟩) ∧ Sep w w' (trH g' gm' ov' t N c') := by
  refine s_tree_Tree_Clone fun R hR => ?_
  unfold c_tree_Tree_Clone
  refine cal_i (tnone_spec hr) ?_
  rintro _ _ ⟨rfl, rfl⟩
  simp only [fx, Nat.reduceAdd, forall_const]
  refine drH_S (Sep.start w) fun w1 hs1 _ => ?_
  refine ⟨fun y z => ∃ g' gm' ov', y = .pointer (some ⟨g', 0, none⟩) ∧ Sep w z [blk g' (Rdr.cells Q_tree_Tree (tq t gm' ov')).toArray T_tree_Tree, mp (n := 32) gm' [] 0, rows (rVec 32) ov' (N.map (·.1))], ?_, ?_⟩
  · have rd : ∀ {u : World}, Sep w u [] → ∃ T fr, u.heap[g]? = some (.cells (Rdr.cells Q_tree_Tree (tq t gm ov)).toArray T fr) := fun hu => (hu.tr hr).cell
    refine ⟨kv t.root, fun u hu => by obtain ⟨T, fr, hc⟩ := rd hu; exact (L_tree_Tree__root hc _).mpr rfl, ?_⟩
    refine rdS_ld (v := .int .i64 t.ht) (fun u hu K hk => by obtain ⟨T, fr, hc⟩ := rd hu; exact (L_tree_Tree__height hc K).mpr hk) ?_
    refine rdS_ld (v := .int .i64 t.most) (fun u hu K hk => by obtain ⟨T, fr, hc⟩ := rd hu; exact (L_tree_Tree__most hc K).mpr hk) ?_
    refine rdS_ld (v := ov) (fun u hu K hk => by obtain ⟨T, fr, hc⟩ := rd hu; exact (L_tree_Tree__order hc K).mpr hk) ?_
    refine ⟨?_, ?_, trivial⟩
    · refine efS_i (makeMap_s (n := 32) hs1 fun gm' w2 hs2 => ⟨hs2.tail, ?_⟩)
      refine efS_i (cal_i (idsClone_spec (hr.ord.fr hs2.fr0) (by simpa using hn)) ?_)
      intro ov' w3 hs3
      replace hs3 := hs2.join hs3
      have h1 := Sep.oneR hs3
      refine ⟨hs3.tail.tail, ?_⟩
      refine ⟨.agg (Rdr.cells Q_tree_Tree (tq t gm' ov')).toArray, fun u hu => by rw [B_tree_Tree_0_1_2_3_4_5 rfl h1], ?_⟩
      refine bxQ hs3 fun g' w4 hs4 => ?_
      exact ⟨Eq w4, rfl, g', gm', ov', rfl, Sep.pick hs4 [0, 2, 1] 3⟩
    · refine efS_i (cal_i (idsClone_spec (hr.ord.fr hs1.fr0) (by simpa using hn)) ?_)
      intro ov' w3 hs3
      replace hs3 := hs1.join hs3
      have h1 := Sep.oneR hs3
      refine ⟨hs3.tail, ?_⟩
      refine efS_i (makeMap_s (n := 32) hs3 fun gm' w2 hs2 => ⟨hs2.tail.tail, ?_⟩)
      refine ⟨.agg (Rdr.cells Q_tree_Tree (tq t gm' ov')).toArray, fun u hu => by rw [B_tree_Tree_0_1_2_3_4_5 rfl h1], ?_⟩
      refine bxQ hs2 fun g' w4 hs4 => ?_
      exact ⟨Eq w4, rfl, g', gm', ov', rfl, hs4⟩
  rintro _ w2 ⟨g', gm', ov', rfl, hs2⟩ _
  have hr2 := hs2.tr hr
  obtain ⟨T, fr, hc⟩ := hr2.cell
  simp only [fx, Nat.reduceAdd, forall_const, L_tree_Tree hc, L_tree_Tree__made hc, L_tree_Tree__root hc, L_tree_Tree__height hc, L_tree_Tree__most hc, L_tree_Tree__blocks hc, L_tree_Tree__order hc]
  obtain ⟨E, hE, hm⟩ := hr.map
  have fm : ∀ {z : World}, Fr [] w z → z.heap[gm]? = some (.map (ents E) c) := fun hf => hf.blk hm (by simp)
  refine range_s U_map_api_ID_api_Block hs2 (fm hs2.fr0) fun gi w3 hs3 => ?_
  refine ⟨fun z => ∃ (D U E2 : List (Ent 32)) (c2 : Nat), (D ++ U).Perm E ∧ E2.map (fun x => (x.1, x.2.1)) = D.map (fun x => (x.1, x.2.1)) ∧ (E2.map (·.2.2)).Nodup ∧ (∀ x ∈ E2, x.2.2 < c2) ∧
    Sep w z [mit gi gm c D, blk g' (Rdr.cells Q_tree_Tree (tq t gm' ov')).toArray T_tree_Tree, mp gm' E2 c2, rows (rVec 32) ov' (N.map (·.1))], fun z => E.length - itSeen gi z, ⟨[], E, [], 0, List.Perm.refl _, rfl, by simp, (fun x hx => by cases hx), hs3⟩, ?_⟩
  rintro w4 ⟨D, U, E2, c2, hp, h2, hb2, hlt2, hs4⟩ -
  have hnb : ((D ++ U).map (·.2.2)).Nodup := ((hp.map _).nodup_iff).2 hE.bn
  have hnk : ((D ++ U).map (·.1)).Nodup := ((hp.map _).nodup_iff).2 hE.nd
  have hk2 : E2.map (·.1) = D.map (·.1) := by
    have := congrArg (List.map Prod.fst) h2
    simpa [Function.comp_def] using this
  refine next_s (E := E) (D := D) hs4 (fm hs4.fr0) hE.lt (fun hall => ?_) fun x w5 hx hxn hm5 hs5 => ?_
  · simp only [fx, Nat.reduceAdd, forall_const]
    have hU : U = [] := by
      cases U with
      | nil => rfl
      | cons u U =>
        exfalso
        have hu := hall u (hp.mem_iff.1 (by simp))
        rw [List.map_append, List.nodup_append] at hnb
        exact hnb.2.2 _ hu _ (by simp) rfl
    subst hU
    rw [List.append_nil] at hp hnk
    refine hR _ _ ⟨g', gm', ov', c2, rfl, ?_⟩
    have hEO : EOk E2 N c2 := by
      refine ⟨by rw [hk2]; exact (hp.map _).trans hE.pm, by rw [hk2]; exact hnk, fun k => ?_, hb2, hlt2⟩
      rw [getE_same h2, getE_perm hp hnk, hE.get]
    have := mpN_close hEO (Sep.p1 (Sep.tail hs4))
    exact Sep.p1 this
  · have hxU : x ∈ U := by
      have := hp.mem_iff.2 hx
      rcases List.mem_append.1 this with h | h
      · exact absurd (List.mem_map_of_mem h) hxn
      · exact h
    obtain ⟨U', hU'⟩ : ∃ U', U.Perm (x :: U') := by
      obtain ⟨s1, s2, rfl⟩ := List.append_of_mem hxU
      exact ⟨s1 ++ s2, List.perm_middle⟩
    have hp' : ((D ++ [x]) ++ U').Perm E := by
      rw [List.append_assoc]
      exact ((hU'.symm.append_left D).trans hp)
    have hlen : D.length + U.length = E.length := by
      have := hp.length_eq
      simpa using this
    have hUl : 0 < U.length := List.length_pos_of_mem hxU
    simp only [fx, Nat.reduceAdd, forall_const]
    have hgi : w5.heap[gi]? = some (.mapIter (some gm) c ((D ++ [x]).map (·.2.2)).toArray c) := by
      obtain ⟨F, ⟨hb, rfl⟩, hk⟩ := hs5.upd
      exact hb
    rw [entry_i (h := w5.heap) hgi hm5 hx hE.bn]
    obtain ⟨b, v, hbv⟩ : ∃ b v, x.2.1 = bq b v ∧ v.oneCell' = true := by
      have h1 : getE x.1 E = some x.2.1 := (getE_iff hE.nd).2 ⟨x, hx, rfl, rfl⟩
      rw [hE.get, getE_node] at h1
      cases hno : nodeOf x.1 N with
      | none => rw [hno] at h1; cases h1
      | some y =>
        rw [hno] at h1
        simp only [Option.map_some, Option.some.injEq] at h1
        exact ⟨y.2.1, y.2.2.1, h1.symm, (hr.dat y (List.mem_of_find?_eq_some hno)).one⟩
    simp only [fx, Nat.reduceAdd, forall_const, hbv.1]
    refine alloc_s hs5 (A_api_ID w5) fun g4 w6 hs6 => ?_
    refine alloc_s hs6 (A_api_Block w6) fun g5 w7 hs7 => ?_
    refine St_api_ID (b := x.1) hs7.p1 fun w8 hs8 => ?_
    refine St_api_Block (b := (b.p, b.h, v)) hs8.p1 (one_api_Block hbv.2) fun w9 hs9 => ?_
    refine drH_S hs9 fun w10 hs10 _ => ?_
    refine rdS_ld (v := .map (some gm')) (fun u hu K hk => (L_tree_Tree__blocks (Sep.blk (Sep.p3 hu)) K).mpr hk) ?_
    refine ⟨kv x.1, fun u hu => (L_api_ID (Sep.blk (Sep.p1 hu)) _).mpr rfl, ?_⟩
    refine ⟨bq b v, fun u hu => (L_api_Block (Sep.blk hu) _).mpr rfl, ?_⟩
    have hnx : getE x.1 E2 = none := getE_nin (by
      rw [hk2]
      intro hm
      rw [(List.Perm.map _ (hU'.append_left D)).nodup_iff, List.map_append, List.nodup_append] at hnk
      exact hnk.2.2 _ hm _ (by simp) rfl)
    refine efC_efU (putNew_s (c := c2) U_map_api_ID_api_Block KT (Sep.p4 hs10) hnx fun w11 hs11 => ?_)
    have hs12 := Sep.pick hs11 [3, 4, 0, 5] 6
    refine ⟨⟨D ++ [x], U', E2 ++ [(x.1, bq b v, c2)], c2 + 1, hp', by simp [h2, hbv.1], ?_, ?_, hs12⟩, ?_⟩
    · rw [List.map_append, List.nodup_append]
      refine ⟨hb2, by simp, fun a ha e he hae => ?_⟩
      obtain ⟨z, hz, rfl⟩ := List.mem_map.1 ha
      have := hlt2 z hz
      simp only [List.map_cons, List.map_nil, List.mem_singleton] at he
      omega
    · intro z hz
      rcases List.mem_append.1 hz with hz | hz
      · have := hlt2 z hz; omega
      · obtain rfl : z = (x.1, bq b v, c2) := by simpa using hz
        show c2 < c2 + 1
        omega
    · have e1 : itSeen gi w11 = D.length + 1 := by
        have hgi : w11.heap[gi]? = some (.mapIter (some gm) c ((D ++ [x]).map (·.2.2)).toArray c) := by
          obtain ⟨F, ⟨hb, rfl⟩, hk⟩ := hs12.upd
          exact hb
        unfold itSeen
        rw [hgi]
        simp
      have e2 : itSeen gi w4 = D.length := by
        have hgi : w4.heap[gi]? = some (.mapIter (some gm) c (D.map (·.2.2)).toArray c) := by
          obtain ⟨F, ⟨hb, rfl⟩, hk⟩ := hs4.upd
          exact hb
        unfold itSeen
        rw [hgi]
        simp
      rw [e1, e2]
      omega
end
end Go.Fx
set_option linter.unusedVariables false
set_option linter.unusedSimpArgs false
namespace Go.Fx
section
variable {w0 w w' : World} {As : List Asn} {g : Nat} {lv : Value} {t : Tr} {N : List TN}
end
end Go.Fx
set_option linter.unusedVariables false
set_option linter.unusedSimpArgs false
namespace Go.Fx
theorem sha_one (l : List UInt8) (h : l.length ≤ 55) : shaL l = mixM firstL (padT l l.length) := by
  have hl : (padT l l.length).length = 64 := by
    unfold padT
    simp only [List.length_append, List.length_replicate, List.length_singleton, be_length]
    unfold zer
    omega
  unfold shaL
  rw [foldM_step (by omega), foldM_end (by simp; omega), List.take_of_length_le (by omega)]
section
variable {w0 w : World} {As : List Asn}
theorem Rows'.sub {α : Type} {q : Rdr α} {h : Heap} {a : Option Addr} {n c i j : Nat} {l : List α} (hr : Rows' q h (.slice a n c) l) (hi : i ≤ j) (hj : j ≤ l.length) (hc : l.length ≤ c) (c' : Nat) : Rows' q h (.slice (if c = i then a else a.map (·.add (i * q.size))) (j - i) c') ((l.drop i).take (j - i)) := by
  have h1 := Rows'.drop hr (k := i) (by omega) hc (c - i)
  exact Rows'.take h1 (k := j - i) (by simp; omega) c'
end
end Go.Fx
set_option linter.unusedVariables false
set_option linter.unusedSimpArgs false
namespace Go.Fx
/-- What is kept beside the tree: each name's block as it was handed in. -/
def HadOk (h : Heap) (N : List TN) (H : List (Ent 32)) : Prop := H.map (·.1) = nms N ∧ ∀ k b, blkOf k N = some b → ∃ v, getE k H = some (bq b v) ∧ RdB h v b.d
theorem HadOk.add {h : Heap} {t : Tr} {N : List TN} {H : List (Ent 32)} {b : Blk} {v vd : Value} {c c' : Nat} (hk : HadOk h N H) (hn : has t N b.id = false) (hv : RdB h v b.d) : HadOk h (N ++ [(b.id, b, vd, c)]) (H ++ [(b.id, bq b v, c')]) := by
  have hnm : b.id ∉ nms N := fun hm => by rw [mem_has (.inr hm)] at hn; cases hn
  refine ⟨by simp [hk.1], fun k b' hb => ?_⟩
  rw [blkOf_snoc] at hb
  cases hk2 : blkOf k N with
  | some y =>
    rw [hk2] at hb
    simp only [Option.some_or, Option.some.injEq] at hb
    subst hb
    obtain ⟨v', h1, h2⟩ := hk.2 k y hk2
    exact ⟨v', by rw [getE_snoc, h1]; rfl, h2⟩
  | none =>
    rw [hk2] at hb
    by_cases he : k = b.id
    · subst he
      have : b = b' := by simpa using hb
      subst this
      exact ⟨v, by rw [getE_snoc, getE_nin (by rw [hk.1]; exact hnm)]; simp, hv⟩
    · simp [he] at hb
theorem HadOk.fr {w w' : World} {N : List TN} {H : List (Ent 32)} (h : HadOk w.heap N H) (hf : Fr [] w w') : HadOk w'.heap N H := ⟨h.1, fun k b hb => by
  obtain ⟨v, h1, h2⟩ := h.2 k b hb
  exact ⟨v, h1, h2.fr hf (off_nil _)⟩⟩
section
variable {w : World}
end
end Go.Fx
set_option linter.unusedVariables false
set_option linter.unusedSimpArgs false
namespace Go.Fx
def argD (xs : List (Vec 32)) (i : Nat) (_ : World) (args : List Value) : Prop := ∃ x, xs[i]? = some x ∧ args = [kv x]
section
variable {w0 w : World} {As : List Asn} {g gm c : Nat} {ov : Value} {t : Tr} {N : List TN}
/-- What a slice's names, told one by one, are. -/
theorem told1_iter {v : Value} {xs : List (Vec 32)} {g1 : Nat} (hl : xs.length ≤ 1000000) : Iter P (.func (.func f_tree_told_1) #[] #[.pointer (some ⟨g1, 0, none⟩)])
    (fun h => (∃ T fr, h[g1]? = some (.cells #[v] T fr)) ∧ Rows' (rVec 32) h v xs) xs.length (argD xs) := by
  refine ⟨_, _, rfl, by kernel_rfl, fun y w0 w J X As h1 h0 hs hM hst => ?_⟩
  show cal P f_tree_told_1 [y, .pointer (some ⟨g1, 0, none⟩)] w _
  refine s_tree_told_1 fun R hR => ?_
  unfold c_tree_told_1
  obtain ⟨⟨T, fr, hc⟩, hv⟩ := hM 0 As [] w h0 (by rwa [List.append_nil])
  refine ld1_i (v := v) hc rfl ?_
  rw [hv.len]
  refine ⟨fun t z => ∃ (i : Nat) (Bs : List Asn), t = .int .i64 i ∧ i ≤ xs.length ∧ J i Bs ∧ Sep w0 z Bs, fun t _ => (xs.length - RowKit.intOf t).toNat, ⟨0, As, rfl, by omega, h0, hs⟩, ?_⟩
  rintro _ z ⟨i, Bs, rfl, hi, hJ, hz⟩ -
  simp only [fx, Nat.reduceAdd, forall_const]
  rw [cnd_bool]
  refine ⟨fun h => ?_, fun h => ?_⟩
  · have hlt : i < xs.length := by simp at h; omega
    obtain ⟨x, hx⟩ : ∃ x, xs[i]? = some x := ⟨_, List.getElem?_eq_getElem hlt⟩
    have hv' := (hM i Bs [] z hJ (by rwa [List.append_nil])).2
    change ixs 32 _ _ _
    refine Rows'.ldN (q := rVec 32) (by decide) hv' hx .i64 ?_
    refine alloc_s hz (A_api_ID z) fun g4 z2 hz2 => ?_
    refine St_api_ID (b := x) hz2 fun z3 hz3 => ?_
    simp only [L_api_ID hz3.blk]
    refine calY_i (hst i [kv x] z3 Bs [_] hlt ⟨x, hx, rfl⟩ hJ (Sep.rot (As := [_]) hz3)) ?_
    rintro r z' (⟨rfl, Cs, hJ', hz'⟩ | ⟨rfl, Cs, hX', hz'⟩)
    · simp only [fx, Nat.reduceAdd, forall_const]
      rw [wi64 (by omega) (by omega)]
      exact ⟨⟨i + 1, Cs, by simp, by omega, hJ', hz'.dropR⟩, by simp [RowKit.intOf]; omega⟩
    · simp only [fx, Nat.reduceAdd, forall_const]
      exact hR _ _ ⟨rfl, .inr ⟨Cs, hX', hz'.dropR⟩⟩
  · have hge : i = xs.length := by simp at h; omega
    subst hge
    exact hR _ _ ⟨rfl, .inl ⟨Bs, hJ, hz⟩⟩
/-- What goes through the names xs, as tree.told makes it. -/
def Goes (w0 w : World) (r : Value) (xs : List (Vec 32)) : Prop := ∃ g1 v, r = .func (.func f_tree_told_1) #[] #[.pointer (some ⟨g1, 0, none⟩)] ∧ Sep w0 w [blk g1 #[v] T_sl_api_ID, rows (rVec 32) v xs]
theorem ttold_spec {v : Value} {xs : List (Vec 32)} (hs : Sep w0 w [rows (rVec 32) v xs]) : cal P f_tree_told [v] w fun r w' => Goes w0 w' r xs := by
  refine s_tree_told fun R hR => ?_
  unfold c_tree_told
  refine bx_s hs fun g1 w1 hs1 => ?_
  have hv := Sep.oneR hs
  have ev : v.cells = #[v] := by cases v <;> simp_all [Value.cells, Value.oneCell']
  rw [ev] at hs1
  exact hR _ _ ⟨g1, v, rfl, hs1⟩
theorem node_mem : ∀ {N : List TN} (_ : (nms N).Nodup) {x : TN} (_ : x ∈ N), nodeOf x.1 N = some x
  | [], _, x, hx => by cases hx
  | y :: N, hu, x, hx => by
    have h1 : y.1 ∉ nms N ∧ (nms N).Nodup := List.nodup_cons.1 hu
    unfold nodeOf
    rw [List.find?_cons]
    rcases List.mem_cons.1 hx with rfl | hx
    · simp
    · have hne : ¬ x.1 = y.1 := fun he => h1.1 (he ▸ List.mem_map.2 ⟨x, hx, rfl⟩)
      rw [decide_eq_false hne]
      exact node_mem h1.2 hx
theorem kid_names (hu : (nms N).Nodup) (k : Vec 32) : (nms N).filter (fun x => decide (upOf x N = k)) = nms (N.filter fun x => decide (x.2.1.p = k)) := by
  have h : ∀ x ∈ N, upOf x.1 N = x.2.1.p := fun x hx => by
    unfold upOf nb
    rw [node_mem hu hx]
    rfl
  show (N.map (·.1)).filter _ = (N.filter _).map (·.1)
  rw [List.filter_map]
  congr 1
  refine List.filter_congr fun x hx => ?_
  show decide (upOf x.1 N = k) = _
  rw [h x hx]
theorem Kids_spec (hr : TrR w.heap g gm ov t N c) (hn : N.length ≤ 1000000) (hu : (nms N).Nodup) (k : Vec 32) : cal P f_tree_Tree_Kids [.pointer (some ⟨g, 0, none⟩), kv k] w fun r w' => Goes w w' r (if has t N k = true then nms (N.filter fun x => decide (x.2.1.p = k)) else []) := by
  refine s_tree_Tree_Kids fun R hR => ?_
  unfold c_tree_Tree_Kids
  refine bx_s (Sep.start w) fun g2 w1 hs1 => ?_
  replace hs1 : Sep w w1 [blk g2 #[.pointer (some ⟨g, 0, none⟩)] T_p_tree_Tree] := hs1
  refine bxQ hs1 fun g3 w2 hs2 => ?_
  refine ld1_i (Sep.p1 hs2).blk rfl ?_
  simp only [L_api_ID hs2.blk]
  refine cal_i (Has_spec (hs2.tr hr) k) ?_
  rintro _ w3 ⟨rfl, hf3⟩
  have hs3 := hs2.old hf3
  simp only [fx, Nat.reduceAdd, forall_const]
  cases hk : has t N k with
  | false =>
    simp only [fx, Nat.reduceAdd, forall_const]
    have hs4 : Sep w w3 [rows (rVec 32) (.slice none 0 0) []] := Sep.dropR (As := [_]) hs3.nilR
    refine cal_i (ttold_spec hs4) ?_
    rintro r' w4 hg
    exact hR _ _ (by rw [if_neg (by rw [hk]; simp)]; exact hg)
  | true =>
    simp only [fx, Nat.reduceAdd, forall_const]
    refine ld1_i (Sep.p1 hs3).blk rfl ?_
    refine cal_i (those_spec (f := f_tree_Tree_Kids_1) (cap := [.pointer (some ⟨g2, 0, none⟩), .pointer (some ⟨g3, 0, none⟩)]) (so := fun x => decide (upOf x N = k)) (hs3.tr hr) hn (by kernel_rfl) ?_) ?_
    · intro z x hz
      have hsz := hs3.old hz
      refine s_tree_Tree_Kids_1 fun R hR => ?_
      unfold c_tree_Tree_Kids_1
      have hs0 : Sep z z [] := Sep.start z
      refine bxQ hs0 fun g5 w5 hs5 => ?_
      refine drw_s hs5 fun w6 hs6 _ => ?_
      have h2 := hs6.fr0.blk (Sep.p1 hsz).blk (by simp)
      have h3 := hs6.fr0.blk hsz.blk (by simp)
      refine ld1_i (v := .pointer (some ⟨g, 0, none⟩)) h2 rfl ?_
      have hr6 := TrR.fr (hsz.tr hr) hs6.fr0
      obtain ⟨T, fr, hc⟩ := hr6.cell
      simp only [fx, Nat.reduceAdd, forall_const, L_tree_Tree hc, L_tree_Tree__made hc, L_tree_Tree__root hc, L_tree_Tree__height hc, L_tree_Tree__most hc, L_tree_Tree__blocks hc, L_tree_Tree__order hc, L_api_ID hs6.blk]
      rw [hr6.look1, nb_get]
      change fldv _ _ _ _ _
      rw [fldv_par]
      simp only [L_api_ID h3, eq_api_ID]
      exact hR _ _ ⟨rfl, hs6.fr0⟩
    · rintro r w4 hs4
      rw [kid_names hu] at hs4
      have hs5 : Sep w w4 [rows (rVec 32) r (nms (N.filter fun x => decide (x.2.1.p = k)))] := Sep.dropR (As := [_]) (hs3.join hs4)
      refine cal_i (ttold_spec hs5) ?_
      rintro r' w5 hg
      exact hR _ _ (by rw [if_pos hk]; exact hg)
end
end Go.Fx
set_option linter.unusedVariables false
set_option linter.unusedSimpArgs false
namespace Go.Fx
def TN.kb (x : TN) : Vec 32 × Blk := (x.1, x.2.1)
abbrev kbs (N : List TN) : List (Vec 32 × Blk) := N.map TN.kb
section
variable {N M : List TN} {t : Tr}
theorem kb_blk : ∀ {N M : List TN} (_ : kbs N = kbs M) (k : Vec 32), blkOf k N = blkOf k M
  | [], [], _, k => rfl
  | [], y :: M, h, k => by simp at h
  | x :: N, [], h, k => by simp at h
  | x :: N, y :: M, h, k => by
    have h1 : x.kb = y.kb ∧ kbs N = kbs M := List.cons.inj h
    have h2 : x.1 = y.1 := by show x.kb.1 = y.kb.1; rw [h1.1]
    have h3 : x.2.1 = y.2.1 := by show x.kb.2 = y.kb.2; rw [h1.1]
    have ih := kb_blk h1.2 k
    unfold blkOf nodeOf at ih ⊢
    rw [List.find?_cons, List.find?_cons, h2]
    by_cases hk : k = y.1
    · simp [hk, h3]
    · simpa [hk] using ih
theorem nb_eq (k : Vec 32) (N : List TN) : (nb k N).1 = (blkOf k N).getD Blk.none := by
  unfold nb blkOf
  cases nodeOf k N <;> rfl
theorem kb_nb (h : kbs N = kbs M) (k : Vec 32) : (nb k N).1 = (nb k M).1 := by rw [nb_eq, nb_eq, kb_blk h]
theorem kb_has (h : kbs N = kbs M) (k : Vec 32) : has t N k = has t M k := by unfold has; rw [kb_blk h]
theorem kb_lev (h : kbs N = kbs M) (k : Vec 32) : levH t N k = levH t M k := by unfold levH; rw [kb_blk h]
theorem kb_hgt (h : kbs N = kbs M) (k : Vec 32) : hgt t N k = hgt t M k := by unfold hgt; rw [kb_lev h]
theorem kb_up (h : kbs N = kbs M) (k : Vec 32) : upOf k N = upOf k M := by unfold upOf; rw [kb_nb h]
theorem kb_way (h : kbs N = kbs M) : ∀ (n : Nat) (k : Vec 32), wayUp t N n k = wayUp t M n k
  | 0, k => rfl
  | n + 1, k => by unfold wayUp; rw [kb_up h, kb_way h n]
theorem kb_under (h : kbs N = kbs M) (a b : Vec 32) : under t N a b = under t M a b := by unfold under; rw [kb_has h, kb_has h, kb_hgt h, kb_way h]
theorem kb_nms (h : kbs N = kbs M) : nms N = nms M := by
  have h1 := congrArg (List.map Prod.fst) h
  rw [List.map_map, List.map_map] at h1
  exact h1
theorem kb_len (h : kbs N = kbs M) : N.length = M.length := by
  have h1 := congrArg List.length h
  simpa using h1
theorem kb_filter (p : Vec 32 × Blk → Bool) (h : kbs N = kbs M) : kbs (N.filter fun x => p x.kb) = kbs (M.filter fun x => p x.kb) := by
  have e : ∀ N : List TN, kbs (N.filter fun x => p x.kb) = (kbs N).filter p := fun N => by rw [kbs, List.filter_map]; rfl
  rw [e, e, h]
theorem kb_kids (h : kbs N = kbs M) (k : Vec 32) : nms (N.filter fun x => decide (x.2.1.p = k)) = nms (M.filter fun x => decide (x.2.1.p = k)) := kb_nms (kb_filter (fun y => decide (y.2.p = k)) h)
theorem TM.kb {m : Nat} (hi : TM t N m) (h : kbs N = kbs M) : TM t M m := by
  have hn := kb_nms h
  refine ⟨⟨fun k b hb => ?_, fun k b hb => ?_, ?_, fun x hx => ?_⟩, ?_, fun k hk => ?_, fun x hx => ?_, hi.ht⟩
  · rw [← kb_blk h] at hb
    rw [← kb_has h, ← kb_lev h]
    exact hi.w.up k b hb
  · rw [← kb_blk h] at hb
    exact hi.w.above k b hb
  · rw [← kb_blk h]; exact hi.w.noroot
  · have : x.kb ∈ kbs N := by rw [h]; exact List.mem_map.2 ⟨x, hx, rfl⟩
    obtain ⟨y, hy, he⟩ := List.mem_map.1 this
    have := hi.w.small y hy
    rw [show y.2.1 = x.2.1 from congrArg Prod.snd he] at this
    exact this
  · show (nms M).Nodup
    rw [← hn]; exact hi.nd
  · rw [← kb_hgt h]; exact hi.hb k (by rw [kb_has h]; exact hk)
  · have : x.kb ∈ kbs N := by rw [h]; exact List.mem_map.2 ⟨x, hx, rfl⟩
    obtain ⟨y, hy, he⟩ := List.mem_map.1 this
    have := hi.hi y hy
    rw [show y.2.1 = x.2.1 from congrArg Prod.snd he] at this
    exact this
end
section
variable {w0 w w' : World} {As : List Asn} {gx g gm gr c : Nat} {ov lv x : Value} {t : Tr} {N M : List TN} {ids : List (Vec 32)}
theorem Goes.fr0 {r : Value} {xs : List (Vec 32)} (h : Goes w0 w r xs) : Fr [] w0 w := by
  obtain ⟨_, _, _, hs⟩ := h
  exact hs.fr0
end
end Go.Fx
set_option linter.unusedVariables false
set_option linter.unusedSimpArgs false
namespace Go.Fx
abbrev Id := Vec 32
abbrev Par := Int × Int × Int × Int
abbrev Cho := Id × Int
structure Sn where
  l : List Cho
  pref : Id
  flake : Id
  conf : Int
  dn : Bool
/-- The value of an instance whose list is v. -/
abbrev snr (v : Value) (x : Sn) : Value × Id × Id × Int × Bool := (v, x.pref, x.flake, x.conf, x.dn)
abbrev snv (v : Value) (x : Sn) : Value := .agg (Rdr.cells Q_api_Snow (snr v x)).toArray
abbrev idv (i : Id) : Value := .agg (Rdr.cells (rVec 32) i).toArray
abbrev pav (p : Par) : Value := .agg (Rdr.cells Q_api_Params p).toArray
def parE (p : Par) : Int := if p.1 < 1 ∨ 64 < p.1 ∨ p.2.1 ≤ p.1 / 2 ∨ p.2.2.1 < p.2.1 ∨ p.1 < p.2.2.1 ∨ p.2.2.2 < 1 ∨ 1000 < p.2.2.2 then 170 else 0
theorem half {k : Int} (h : 0 ≤ k) : IntKind.i64.wrap (k.tdiv 2) = k / 2 ∨ 9223372036854775807 < k := by
  rcases Int.lt_or_le 9223372036854775807 k with h1 | h1
  · exact .inr h1
  · left
    rw [Int.tdiv_eq_ediv_of_nonneg h, wi64 (by omega) (by omega)]
theorem snParams_spec {w : World} {p : Par} : cal P f_snow_Params [pav p] w fun v w' => v = .int .i64 (parE p) ∧ Fr [] w w' := by
  refine s_snow_Params fun R hR => ?_
  unfold c_snow_Params
  refine bx_s (Sep.start w) fun g w1 hs => ?_
  simp only [Value.cells] at hs
  have hg := hs.blk
  obtain ⟨k, ap, ac, be⟩ := p
  simp only [fx, Nat.reduceAdd, forall_const, L_api_Params hg, L_api_Params__K hg, L_api_Params__AlphaPref hg, L_api_Params__AlphaConf hg, L_api_Params__Beta hg, bi_quo .i64 k 2 _ (by decide)]
  have hfin : ∀ b : Bool, b = decide (k < 1 ∨ 64 < k ∨ ap ≤ k / 2 ∨ ac < ap ∨ k < ac ∨ be < 1 ∨ 1000 < be) → cnd (.bool b) (R (.int .i64 170) w1) (R (.int .i64 0) w1) := fun b hb => by
    rw [cnd_bool]
    refine ⟨fun h => ?_, fun h => ?_⟩
    · rw [hb] at h; exact hR _ _ ⟨by rw [parE, if_pos (by simpa using h)], hs.fr0⟩
    · rw [hb] at h; exact hR _ _ ⟨by rw [parE, if_neg (by simpa using h)], hs.fr0⟩
  refine hfin _ ?_
  by_cases h1 : k < 1
  · simp [h1]
  by_cases h2 : 64 < k
  · simp [h2]
  rcases half (k := k) (by omega) with e | e
  · rw [e]
    simp [Bool.or_assoc]
  · omega
/-- The place of the first choice of a name; -1: there is none. -/
def plc (l : List Cho) (id : Id) : Int := match l.findIdx? (fun c => decide (c.1 = id)) with
  | some i => i
  | none => -1
theorem plc_at {l : List Cho} {id : Id} {i : Nat} {c : Cho} (hi : l[i]? = some c) (hc : c.1 = id) (hb : ∀ (j : Nat) (d : Cho), j < i → l[j]? = some d → d.1 ≠ id) : plc l id = i := by
  have : l.findIdx? (fun c => decide (c.1 = id)) = some i := by
    rw [List.findIdx?_eq_some_iff_getElem]
    have hlt := (List.getElem?_eq_some_iff.1 hi).1
    refine ⟨hlt, ?_, fun j hj => ?_⟩
    · rw [List.getElem?_eq_getElem hlt] at hi
      simp only [Option.some.injEq] at hi
      rw [hi]
      simpa using hc
    · have := hb j _ hj (List.getElem?_eq_getElem (by omega))
      simpa using this
  rw [plc, this]
theorem plc_none {l : List Cho} {id : Id} (hb : ∀ (j : Nat) (d : Cho), l[j]? = some d → d.1 ≠ id) : plc l id = -1 := by
  have : l.findIdx? (fun c => decide (c.1 = id)) = none := by
    rw [List.findIdx?_eq_none_iff]
    intro c hc
    obtain ⟨j, hj⟩ := List.mem_iff_getElem?.1 hc
    simpa using hb j c hj
  rw [plc, this]
theorem plc_cases (l : List Cho) (id : Id) : (plc l id = -1 ∧ ∀ (j : Nat) (d : Cho), l[j]? = some d → d.1 ≠ id) ∨
    ∃ i c, plc l id = ((i : Nat) : Int) ∧ l[i]? = some c ∧ c.1 = id ∧ ∀ (j : Nat) (d : Cho), j < i → l[j]? = some d → d.1 ≠ id := by
  unfold plc
  cases h : l.findIdx? (fun c => decide (c.1 = id)) with
  | none =>
    rw [List.findIdx?_eq_none_iff] at h
    exact .inl ⟨rfl, fun j d hj => by simpa using h d (List.mem_of_getElem? hj)⟩
  | some i =>
    rw [List.findIdx?_eq_some_iff_getElem] at h
    obtain ⟨hlt, h1, h2⟩ := h
    exact .inr ⟨i, l[i], rfl, List.getElem?_eq_getElem hlt, by simpa using h1, fun j d hj hd => by
      rw [List.getElem?_eq_getElem (by omega)] at hd
      simp only [Option.some.injEq] at hd
      rw [← hd]
      simpa using h2 j hj⟩
section
variable {w : World} {v : Value} {x : Sn} {id : Id}
theorem snPlace_spec (hr : Rows' Q_api_Choice w.heap v x.l) (hl : x.l.length ≤ 9223372036854775807) : cal P f_snow_place [snv v x, idv id] w fun r w' => r = .int .i64 (plc x.l id) ∧ Fr [] w w' := by
  refine s_snow_place fun R hR => ?_
  unfold c_snow_place
  refine bx_s (Sep.start w) fun g w1 hs => ?_
  refine bx_s hs fun g2 w2 hs => ?_
  simp only [Value.cells] at hs
  simp only [fx, Nat.reduceAdd, forall_const, L_api_Snow hs.p1.blk, L_api_Snow__List hs.p1.blk, L_api_Snow__Pref hs.p1.blk, L_api_Snow__Flake hs.p1.blk, L_api_Snow__Conf hs.p1.blk, L_api_Snow__Done hs.p1.blk]
  refine cal_i (K' := fun r w' => r = .int .i64 (plc x.l id) ∧ Fr [] w w') ?_ fun r w' h => hR _ _ h
  refine s_slices_IndexFunc_api_Choice_api_Choice fun R hR => ?_
  unfold c_slices_IndexFunc_api_Choice_api_Choice
  simp only [(hr.fr hs.fr0).len]
  refine ⟨fun y w' => ∃ i : Nat, i ≤ x.l.length ∧ y = .int .i64 i ∧ (∀ (j : Nat) (d : Cho), j < i → x.l[j]? = some d → d.1 ≠ id) ∧ Sep w w' [blk g2 (Rdr.cells (rVec 32) id).toArray T_api_ID], fun y _ => (x.l.length - RowKit.intOf y).toNat,
    ⟨0, by omega, rfl, by simp, hs.d1⟩, ?_⟩
  rintro _ w3 ⟨i, hi, rfl, hno, hs3⟩ -
  simp only [fx, Nat.reduceAdd, forall_const]
  rw [cnd_bool]
  refine ⟨fun h => ?_, fun h => ?_⟩
  · have hlt : i < x.l.length := by simpa using h
    obtain ⟨c, hc⟩ : ∃ c, x.l[i]? = some c := ⟨_, List.getElem?_eq_getElem hlt⟩
    refine (hr.fr hs3.fr0).ldN (by decide) hc _ ?_
    refine calV_i (first := []) (cap := [.pointer (some ⟨g2, 0, none⟩)]) (K' := fun r w' => r = .bool (decide (c.1 = id)) ∧ Sep w w' [blk g2 (Rdr.cells (rVec 32) id).toArray T_api_ID]) (by kernel_rfl) ?_ ?_
    · refine s_snow_place_1 fun R hR => ?_
      unfold c_snow_place_1
      refine bx_s hs3 fun g4 w4 hs4 => ?_
      simp only [Value.cells] at hs4
      simp only [fx, Nat.reduceAdd, forall_const, L_api_Choice hs4.blk, L_api_Choice__ID hs4.blk, L_api_Choice__Strength hs4.blk, L_api_ID hs4.p1.blk, eq_api_ID]
      exact hR _ _ ⟨rfl, hs4.tail⟩
    · rintro _ w4 ⟨rfl, hs4⟩
      rw [cnd_bool]
      refine ⟨fun h => ?_, fun hne => ?_⟩
      · exact hR _ _ ⟨by rw [plc_at hc (by simpa using h) hno], hs4.fr0⟩
      · rw [wi64 (by omega) (by omega)]
        refine ⟨⟨i + 1, by omega, by simp, fun j d hj hd => ?_, hs4⟩, by simp [RowKit.intOf]; omega⟩
        by_cases hji : j = i
        · subst hji; rw [hc] at hd; cases hd; simpa using hne
        · exact hno j d (by omega) hd
  · have hge : i = x.l.length := by simp at h; omega
    exact hR _ _ ⟨by rw [plc_none fun j d hd => hno j d (by have := (List.getElem?_eq_some_iff.1 hd).1; omega) hd], hs3.fr0⟩
end
end Go.Fx
