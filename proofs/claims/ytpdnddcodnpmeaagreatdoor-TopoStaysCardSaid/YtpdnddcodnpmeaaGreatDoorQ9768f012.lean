/-
  A block that is added to a tree: the program's.
-/
import Derived.Lib.SlBytesConst
import Derived.MapKept
import Derived.WideKeyRuns
import Derived.Test.YtpdnddcodnpmeaaGreatDoorQ952b5fe2
import Derived.Test.YtpdnddcodnpmeaaGreatDoorQ330fd3d3
import Derived.Test.YtpdnddcodnpmeaaGreatDoorQd5ec66e2
import Derived.Test.YtpdnddcodnpmeaaGreatDoorQ855ca3e0
import Derived.Test.YtpdnddcodnpmeaaGreatDoorQd3b58593
import Derived.Test.YtpdnddcodnpmeaaGreatDoorQ15a7199f
import Derived.Test.YtpdnddcodnpmeaaGreatDoorQ32d01978
import Derived.Test.YtpdnddcodnpmeaaGreatDoorQ0ec6ddef
set_option linter.unusedVariables false
set_option maxRecDepth 100000
namespace Go.Fx
theorem someNe {α : Type} {o : Option α} (h : o.isSome = true) : o ≠ none := by intro h2; rw [h2] at h; cases h
theorem U_int64 : P.underlying T_int64 = some (.int .i64) := by kernel_rfl
theorem U_int : P.underlying T_int = some (.int .i64) := by kernel_rfl
theorem U_bool : P.underlying T_bool = some .bool := by kernel_rfl
theorem U_uint8 : P.underlying T_uint8 = some (.int .u8) := by kernel_rfl
theorem U_api_Params : P.underlying T_api_Params = some (.struct (fsOf P T_api_Params)) := by kernel_rfl
theorem U_api_ID : P.underlying T_api_ID = some (.array 32 T_uint8) := by kernel_rfl
theorem U_flurrylaw19_Start : P.underlying T_flurrylaw19_Start = some (.struct (fsOf P T_flurrylaw19_Start)) := by kernel_rfl
theorem U_sl_flurrylaw19_Act : P.underlying T_sl_flurrylaw19_Act = some (.slice T_flurrylaw19_Act) := by kernel_rfl
theorem U_sl_uint8 : P.underlying T_sl_uint8 = some (.slice T_uint8) := by kernel_rfl
theorem S_sl_uint8 : SlT P T_sl_uint8 T_uint8 1 1 := ⟨by kernel_rfl, by kernel_rfl, by kernel_rfl, someNe (by kernel_rfl), by kernel_rfl, by decide⟩
theorem U_sl_flurrylaw19_For : P.underlying T_sl_flurrylaw19_For = some (.slice T_flurrylaw19_For) := by kernel_rfl
theorem U_flurrylaw19_Act : P.underlying T_flurrylaw19_Act = some (.struct (fsOf P T_flurrylaw19_Act)) := by kernel_rfl
theorem U_api_Block : P.underlying T_api_Block = some (.struct (fsOf P T_api_Block)) := by kernel_rfl
theorem U_sl_api_ID : P.underlying T_sl_api_ID = some (.slice T_api_ID) := by kernel_rfl
theorem S_sl_api_ID : SlT P T_sl_api_ID T_api_ID 32 32 := ⟨by kernel_rfl, by kernel_rfl, by kernel_rfl, someNe (by kernel_rfl), by kernel_rfl, by decide⟩
theorem U_sl_int64 : P.underlying T_sl_int64 = some (.slice T_int64) := by kernel_rfl
theorem S_sl_int64 : SlT P T_sl_int64 T_int64 1 8 := ⟨by kernel_rfl, by kernel_rfl, by kernel_rfl, someNe (by kernel_rfl), by kernel_rfl, by decide⟩
theorem U_flurrylaw19_names : P.underlying T_flurrylaw19_names = some (.struct (fsOf P T_flurrylaw19_names)) := by kernel_rfl
theorem U_flurrylaw19_world : P.underlying T_flurrylaw19_world = some (.struct (fsOf P T_flurrylaw19_world)) := by kernel_rfl
theorem U_sl_api_Vote : P.underlying T_sl_api_Vote = some (.slice T_api_Vote) := by kernel_rfl
theorem S_sl_api_Vote : SlT P T_sl_api_Vote T_api_Vote 33 40 := ⟨by kernel_rfl, by kernel_rfl, by kernel_rfl, someNe (by kernel_rfl), by kernel_rfl, by decide⟩
theorem U_sl_api_Choice : P.underlying T_sl_api_Choice = some (.slice T_api_Choice) := by kernel_rfl
theorem S_sl_api_Choice : SlT P T_sl_api_Choice T_api_Choice 33 40 := ⟨by kernel_rfl, by kernel_rfl, by kernel_rfl, someNe (by kernel_rfl), by kernel_rfl, by decide⟩
theorem U_api_Snow : P.underlying T_api_Snow = some (.struct (fsOf P T_api_Snow)) := by kernel_rfl
theorem U_api_Vote : P.underlying T_api_Vote = some (.struct (fsOf P T_api_Vote)) := by kernel_rfl
theorem U_map_api_ID_api_Snow : P.underlying T_map_api_ID_api_Snow = some (.map T_api_ID T_api_Snow) := by kernel_rfl
theorem U_topo_Topo : P.underlying T_topo_Topo = some (.struct (fsOf P T_topo_Topo)) := by kernel_rfl
theorem U_map_api_ID_int : P.underlying T_map_api_ID_int = some (.map T_api_ID T_int) := by kernel_rfl
theorem U_flurrylaw19_For : P.underlying T_flurrylaw19_For = some (.struct (fsOf P T_flurrylaw19_For)) := by kernel_rfl
theorem U_map_api_ID_api_Block : P.underlying T_map_api_ID_api_Block = some (.map T_api_ID T_api_Block) := by kernel_rfl
theorem U_tree_Tree : P.underlying T_tree_Tree = some (.struct (fsOf P T_tree_Tree)) := by kernel_rfl
theorem U_map_api_ID_bool : P.underlying T_map_api_ID_bool = some (.map T_api_ID T_bool) := by kernel_rfl
theorem U_api_Choice : P.underlying T_api_Choice = some (.struct (fsOf P T_api_Choice)) := by kernel_rfl
theorem U_pack_Packer : P.underlying T_pack_Packer = some (.struct (fsOf P T_pack_Packer)) := by kernel_rfl
theorem U_uint32 : P.underlying T_uint32 = some (.int .u32) := by kernel_rfl
theorem U_a64_uint32 : P.underlying T_a64_uint32 = some (.array 64 T_uint32) := by kernel_rfl
abbrev Q_api_Params := (Rdr.pair (rInt .i64) (Rdr.pair (rInt .i64) (Rdr.pair (rInt .i64) (rInt .i64))))
theorem L_api_Params {h : Heap} {g : Nat} {t : TypeId} {fr : Nat × Nat} {a} (hg : h[g]? = some (.cells (Rdr.cells Q_api_Params a).toArray t fr)) (K : Value → Prop) : ldN 4 (.pointer (some ⟨g, 0, none⟩)) h K = K (.agg (Rdr.cells Q_api_Params a).toArray) := Fld.ldN (r := Q_api_Params) (s := Q_api_Params) Fld.self hg K
theorem St_api_Params {w0 w : World} {As : List Asn} {g : Nat} {t : TypeId} {a} {b} {K : World → Prop} (hs : Sep w0 w (blk g (Rdr.cells Q_api_Params a).toArray t :: As)) (h1 : ∀ u ∈ Rdr.cells Q_api_Params b, u.oneCell' = true) (h : ∀ w', Sep w0 w' (blk g (Rdr.cells Q_api_Params b).toArray t :: As) → K w') : stN 4 (.pointer (some ⟨g, 0, none⟩)) (.agg (Rdr.cells Q_api_Params b).toArray) w K := Fld.stN (r := Q_api_Params) (s := Q_api_Params) Fld.self hs h1 h
theorem L_api_Params__K {h : Heap} {g : Nat} {t : TypeId} {fr : Nat × Nat} {a} (hg : h[g]? = some (.cells (Rdr.cells Q_api_Params a).toArray t fr)) (K : Value → Prop) : ld1 (.pointer (some ⟨g, 0, none⟩)) h K = K (.int .i64 a.1) := Fld.ldI (r := Q_api_Params) (Fld.fst Fld.self) hg K
theorem L_api_Params__AlphaPref {h : Heap} {g : Nat} {t : TypeId} {fr : Nat × Nat} {a} (hg : h[g]? = some (.cells (Rdr.cells Q_api_Params a).toArray t fr)) (K : Value → Prop) : ld1 (.pointer (some ⟨g, 1, none⟩)) h K = K (.int .i64 a.2.1) := Fld.ldI (r := Q_api_Params) (Fld.snd (Fld.fst Fld.self)) hg K
theorem L_api_Params__AlphaConf {h : Heap} {g : Nat} {t : TypeId} {fr : Nat × Nat} {a} (hg : h[g]? = some (.cells (Rdr.cells Q_api_Params a).toArray t fr)) (K : Value → Prop) : ld1 (.pointer (some ⟨g, 2, none⟩)) h K = K (.int .i64 a.2.2.1) := Fld.ldI (r := Q_api_Params) (Fld.snd (Fld.snd (Fld.fst Fld.self))) hg K
theorem L_api_Params__Beta {h : Heap} {g : Nat} {t : TypeId} {fr : Nat × Nat} {a} (hg : h[g]? = some (.cells (Rdr.cells Q_api_Params a).toArray t fr)) (K : Value → Prop) : ld1 (.pointer (some ⟨g, 3, none⟩)) h K = K (.int .i64 a.2.2.2) := Fld.ldI (r := Q_api_Params) (Fld.snd (Fld.snd (Fld.snd Fld.self))) hg K
theorem one_api_Params {a}  : ∀ u ∈ Rdr.cells Q_api_Params a, u.oneCell' = true := (onePair oneI (onePair oneI (onePair oneI oneI)))
theorem A_api_Params (w : World) : (Instr.alloc T_api_Params true (.tuple #[])).run P w = .ok (.pointer (some ⟨w.heap.size, 0, none⟩)) (w.alloc (.cells (Rdr.cells Q_api_Params ((0 : Int), (0 : Int), (0 : Int), (0 : Int))).toArray T_api_Params)) := by kernel_rfl
theorem pl_api_Params : ((fsOf P T_api_Params).toList.mapM fun f : Field => (P.info? f.type).map fun i => (f.offset, i.size)) = some (#[(0, 1), (1, 1), (2, 1), (3, 1)] : Array (Nat × Nat)).toList := by kernel_rfl
theorem z_api_Params : ((P.info? T_api_Params).bind fun it => it.zero.map fun z => z.cells) = some (Rdr.cells Q_api_Params ((0 : Int), (0 : Int), (0 : Int), (0 : Int))).toArray := by kernel_rfl
abbrev Q_flurrylaw19_Start := (Rdr.pair Q_api_Params (Rdr.pair (rVec 32) (Rdr.pair (rInt .i64) (rInt .i64))))
theorem L_flurrylaw19_Start {h : Heap} {g : Nat} {t : TypeId} {fr : Nat × Nat} {a} (hg : h[g]? = some (.cells (Rdr.cells Q_flurrylaw19_Start a).toArray t fr)) (K : Value → Prop) : ldN 38 (.pointer (some ⟨g, 0, none⟩)) h K = K (.agg (Rdr.cells Q_flurrylaw19_Start a).toArray) := Fld.ldN (r := Q_flurrylaw19_Start) (s := Q_flurrylaw19_Start) Fld.self hg K
theorem L_flurrylaw19_Start__P {h : Heap} {g : Nat} {t : TypeId} {fr : Nat × Nat} {a} (hg : h[g]? = some (.cells (Rdr.cells Q_flurrylaw19_Start a).toArray t fr)) (K : Value → Prop) : ldN 4 (.pointer (some ⟨g, 0, none⟩)) h K = K (.agg (Rdr.cells Q_api_Params a.1).toArray) := Fld.ldN (r := Q_flurrylaw19_Start) (s := Q_api_Params) (Fld.fst Fld.self) hg K
theorem L_flurrylaw19_Start__P_K {h : Heap} {g : Nat} {t : TypeId} {fr : Nat × Nat} {a} (hg : h[g]? = some (.cells (Rdr.cells Q_flurrylaw19_Start a).toArray t fr)) (K : Value → Prop) : ld1 (.pointer (some ⟨g, 0, none⟩)) h K = K (.int .i64 a.1.1) := Fld.ldI (r := Q_flurrylaw19_Start) (Fld.fst (Fld.fst Fld.self)) hg K
theorem L_flurrylaw19_Start__P_AlphaPref {h : Heap} {g : Nat} {t : TypeId} {fr : Nat × Nat} {a} (hg : h[g]? = some (.cells (Rdr.cells Q_flurrylaw19_Start a).toArray t fr)) (K : Value → Prop) : ld1 (.pointer (some ⟨g, 1, none⟩)) h K = K (.int .i64 a.1.2.1) := Fld.ldI (r := Q_flurrylaw19_Start) (Fld.fst (Fld.snd (Fld.fst Fld.self))) hg K
theorem L_flurrylaw19_Start__P_AlphaConf {h : Heap} {g : Nat} {t : TypeId} {fr : Nat × Nat} {a} (hg : h[g]? = some (.cells (Rdr.cells Q_flurrylaw19_Start a).toArray t fr)) (K : Value → Prop) : ld1 (.pointer (some ⟨g, 2, none⟩)) h K = K (.int .i64 a.1.2.2.1) := Fld.ldI (r := Q_flurrylaw19_Start) (Fld.fst (Fld.snd (Fld.snd (Fld.fst Fld.self)))) hg K
theorem L_flurrylaw19_Start__P_Beta {h : Heap} {g : Nat} {t : TypeId} {fr : Nat × Nat} {a} (hg : h[g]? = some (.cells (Rdr.cells Q_flurrylaw19_Start a).toArray t fr)) (K : Value → Prop) : ld1 (.pointer (some ⟨g, 3, none⟩)) h K = K (.int .i64 a.1.2.2.2) := Fld.ldI (r := Q_flurrylaw19_Start) (Fld.fst (Fld.snd (Fld.snd (Fld.snd Fld.self)))) hg K
theorem L_flurrylaw19_Start__Root {h : Heap} {g : Nat} {t : TypeId} {fr : Nat × Nat} {a} (hg : h[g]? = some (.cells (Rdr.cells Q_flurrylaw19_Start a).toArray t fr)) (K : Value → Prop) : ldN 32 (.pointer (some ⟨g, 4, none⟩)) h K = K (.agg (Rdr.cells (rVec 32) a.2.1).toArray) := Fld.ldN (r := Q_flurrylaw19_Start) (s := (rVec 32)) (Fld.snd (Fld.fst Fld.self)) hg K
theorem L_flurrylaw19_Start__Height {h : Heap} {g : Nat} {t : TypeId} {fr : Nat × Nat} {a} (hg : h[g]? = some (.cells (Rdr.cells Q_flurrylaw19_Start a).toArray t fr)) (K : Value → Prop) : ld1 (.pointer (some ⟨g, 36, none⟩)) h K = K (.int .i64 a.2.2.1) := Fld.ldI (r := Q_flurrylaw19_Start) (Fld.snd (Fld.snd (Fld.fst Fld.self))) hg K
theorem L_flurrylaw19_Start__Most {h : Heap} {g : Nat} {t : TypeId} {fr : Nat × Nat} {a} (hg : h[g]? = some (.cells (Rdr.cells Q_flurrylaw19_Start a).toArray t fr)) (K : Value → Prop) : ld1 (.pointer (some ⟨g, 37, none⟩)) h K = K (.int .i64 a.2.2.2) := Fld.ldI (r := Q_flurrylaw19_Start) (Fld.snd (Fld.snd (Fld.snd Fld.self))) hg K
abbrev Q_flurrylaw19_Act := (Rdr.pair rBool (Rdr.pair (rInt .u8) (Rdr.pair qv qv)))
theorem L_flurrylaw19_Act {h : Heap} {g : Nat} {t : TypeId} {fr : Nat × Nat} {a} (hg : h[g]? = some (.cells (Rdr.cells Q_flurrylaw19_Act a).toArray t fr)) (K : Value → Prop) : ldN 4 (.pointer (some ⟨g, 0, none⟩)) h K = K (.agg (Rdr.cells Q_flurrylaw19_Act a).toArray) := Fld.ldN (r := Q_flurrylaw19_Act) (s := Q_flurrylaw19_Act) Fld.self hg K
theorem St_flurrylaw19_Act {w0 w : World} {As : List Asn} {g : Nat} {t : TypeId} {a} {b} {K : World → Prop} (hs : Sep w0 w (blk g (Rdr.cells Q_flurrylaw19_Act a).toArray t :: As)) (h1 : ∀ u ∈ Rdr.cells Q_flurrylaw19_Act b, u.oneCell' = true) (h : ∀ w', Sep w0 w' (blk g (Rdr.cells Q_flurrylaw19_Act b).toArray t :: As) → K w') : stN 4 (.pointer (some ⟨g, 0, none⟩)) (.agg (Rdr.cells Q_flurrylaw19_Act b).toArray) w K := Fld.stN (r := Q_flurrylaw19_Act) (s := Q_flurrylaw19_Act) Fld.self hs h1 h
theorem L_flurrylaw19_Act__Poll {h : Heap} {g : Nat} {t : TypeId} {fr : Nat × Nat} {a} (hg : h[g]? = some (.cells (Rdr.cells Q_flurrylaw19_Act a).toArray t fr)) (K : Value → Prop) : ld1 (.pointer (some ⟨g, 0, none⟩)) h K = K (.bool a.1) := Fld.ldB (r := Q_flurrylaw19_Act) (Fld.fst Fld.self) hg K
theorem L_flurrylaw19_Act__K {h : Heap} {g : Nat} {t : TypeId} {fr : Nat × Nat} {a} (hg : h[g]? = some (.cells (Rdr.cells Q_flurrylaw19_Act a).toArray t fr)) (K : Value → Prop) : ld1 (.pointer (some ⟨g, 1, none⟩)) h K = K (.int .u8 a.2.1) := Fld.ldI (r := Q_flurrylaw19_Act) (Fld.snd (Fld.fst Fld.self)) hg K
theorem L_flurrylaw19_Act__Data {h : Heap} {g : Nat} {t : TypeId} {fr : Nat × Nat} {a} (hg : h[g]? = some (.cells (Rdr.cells Q_flurrylaw19_Act a).toArray t fr)) (K : Value → Prop) : ld1 (.pointer (some ⟨g, 2, none⟩)) h K = K (a.2.2.1) := Fld.ld1 (r := Q_flurrylaw19_Act) (Fld.snd (Fld.snd (Fld.fst Fld.self))) hg K
theorem L_flurrylaw19_Act__Votes {h : Heap} {g : Nat} {t : TypeId} {fr : Nat × Nat} {a} (hg : h[g]? = some (.cells (Rdr.cells Q_flurrylaw19_Act a).toArray t fr)) (K : Value → Prop) : ld1 (.pointer (some ⟨g, 3, none⟩)) h K = K (a.2.2.2) := Fld.ld1 (r := Q_flurrylaw19_Act) (Fld.snd (Fld.snd (Fld.snd Fld.self))) hg K
theorem one_flurrylaw19_Act {a} (h0 : (a.2.2.1).oneCell' = true) (h1 : (a.2.2.2).oneCell' = true) : ∀ u ∈ Rdr.cells Q_flurrylaw19_Act a, u.oneCell' = true := (onePair oneB (onePair oneI (onePair (oneV h0) (oneV h1))))
theorem A_flurrylaw19_Act (w : World) : (Instr.alloc T_flurrylaw19_Act true (.tuple #[])).run P w = .ok (.pointer (some ⟨w.heap.size, 0, none⟩)) (w.alloc (.cells (Rdr.cells Q_flurrylaw19_Act (false, (0 : Int), ((Value.slice none 0 0)), ((Value.slice none 0 0)))).toArray T_flurrylaw19_Act)) := by kernel_rfl
abbrev Q_api_Block := (Rdr.pair (rVec 32) (Rdr.pair (rInt .i64) qv))
theorem L_api_Block {h : Heap} {g : Nat} {t : TypeId} {fr : Nat × Nat} {a} (hg : h[g]? = some (.cells (Rdr.cells Q_api_Block a).toArray t fr)) (K : Value → Prop) : ldN 34 (.pointer (some ⟨g, 0, none⟩)) h K = K (.agg (Rdr.cells Q_api_Block a).toArray) := Fld.ldN (r := Q_api_Block) (s := Q_api_Block) Fld.self hg K
theorem St_api_Block {w0 w : World} {As : List Asn} {g : Nat} {t : TypeId} {a} {b} {K : World → Prop} (hs : Sep w0 w (blk g (Rdr.cells Q_api_Block a).toArray t :: As)) (h1 : ∀ u ∈ Rdr.cells Q_api_Block b, u.oneCell' = true) (h : ∀ w', Sep w0 w' (blk g (Rdr.cells Q_api_Block b).toArray t :: As) → K w') : stN 34 (.pointer (some ⟨g, 0, none⟩)) (.agg (Rdr.cells Q_api_Block b).toArray) w K := Fld.stN (r := Q_api_Block) (s := Q_api_Block) Fld.self hs h1 h
theorem L_api_Block__Parent {h : Heap} {g : Nat} {t : TypeId} {fr : Nat × Nat} {a} (hg : h[g]? = some (.cells (Rdr.cells Q_api_Block a).toArray t fr)) (K : Value → Prop) : ldN 32 (.pointer (some ⟨g, 0, none⟩)) h K = K (.agg (Rdr.cells (rVec 32) a.1).toArray) := Fld.ldN (r := Q_api_Block) (s := (rVec 32)) (Fld.fst Fld.self) hg K
theorem L_api_Block__Height {h : Heap} {g : Nat} {t : TypeId} {fr : Nat × Nat} {a} (hg : h[g]? = some (.cells (Rdr.cells Q_api_Block a).toArray t fr)) (K : Value → Prop) : ld1 (.pointer (some ⟨g, 32, none⟩)) h K = K (.int .i64 a.2.1) := Fld.ldI (r := Q_api_Block) (Fld.snd (Fld.fst Fld.self)) hg K
theorem L_api_Block__Data {h : Heap} {g : Nat} {t : TypeId} {fr : Nat × Nat} {a} (hg : h[g]? = some (.cells (Rdr.cells Q_api_Block a).toArray t fr)) (K : Value → Prop) : ld1 (.pointer (some ⟨g, 33, none⟩)) h K = K (a.2.2) := Fld.ld1 (r := Q_api_Block) (Fld.snd (Fld.snd Fld.self)) hg K
theorem St_api_Block__Data {w0 w : World} {As : List Asn} {g : Nat} {t : TypeId} {a} {b} {K : World → Prop} (hs : Sep w0 w (blk g (Rdr.cells Q_api_Block a).toArray t :: As)) (h1 : b.oneCell' = true) (h : ∀ w', Sep w0 w' (blk g (Rdr.cells Q_api_Block (a.1, a.2.1, b)).toArray t :: As) → K w') : st1 (.pointer (some ⟨g, 33, none⟩)) (b) w K := Fld.stV (r := Q_api_Block) (s := qv) (Fld.snd (Fld.snd Fld.self)) rfl hs h1 h
theorem one_api_Block {a} (h0 : (a.2.2).oneCell' = true) : ∀ u ∈ Rdr.cells Q_api_Block a, u.oneCell' = true := (onePair oneVec (onePair oneI (oneV h0)))
theorem A_api_Block (w : World) : (Instr.alloc T_api_Block true (.tuple #[])).run P w = .ok (.pointer (some ⟨w.heap.size, 0, none⟩)) (w.alloc (.cells (Rdr.cells Q_api_Block ((vz 32), (0 : Int), ((Value.slice none 0 0)))).toArray T_api_Block)) := by kernel_rfl
theorem pl_api_Block : ((fsOf P T_api_Block).toList.mapM fun f : Field => (P.info? f.type).map fun i => (f.offset, i.size)) = some (#[(0, 32), (32, 1), (33, 1)] : Array (Nat × Nat)).toList := by kernel_rfl
theorem z_api_Block : ((P.info? T_api_Block).bind fun it => it.zero.map fun z => z.cells) = some (Rdr.cells Q_api_Block ((vz 32), (0 : Int), ((Value.slice none 0 0)))).toArray := by kernel_rfl
abbrev Q_flurrylaw19_names := (Rdr.pair qv qv)
theorem pl_flurrylaw19_names : ((fsOf P T_flurrylaw19_names).toList.mapM fun f : Field => (P.info? f.type).map fun i => (f.offset, i.size)) = some (#[(0, 1), (1, 1)] : Array (Nat × Nat)).toList := by kernel_rfl
theorem z_flurrylaw19_names : ((P.info? T_flurrylaw19_names).bind fun it => it.zero.map fun z => z.cells) = some (Rdr.cells Q_flurrylaw19_names (((Value.slice none 0 0)), ((Value.slice none 0 0)))).toArray := by kernel_rfl
abbrev Q_flurrylaw19_world := (Rdr.pair qv (Rdr.pair Q_flurrylaw19_names (Rdr.pair qv qv)))
theorem L_flurrylaw19_world__t {h : Heap} {g : Nat} {t : TypeId} {fr : Nat × Nat} {a} (hg : h[g]? = some (.cells (Rdr.cells Q_flurrylaw19_world a).toArray t fr)) (K : Value → Prop) : ld1 (.pointer (some ⟨g, 0, none⟩)) h K = K (a.1) := Fld.ld1 (r := Q_flurrylaw19_world) (Fld.fst Fld.self) hg K
theorem L_flurrylaw19_world__n_ids {h : Heap} {g : Nat} {t : TypeId} {fr : Nat × Nat} {a} (hg : h[g]? = some (.cells (Rdr.cells Q_flurrylaw19_world a).toArray t fr)) (K : Value → Prop) : ld1 (.pointer (some ⟨g, 1, none⟩)) h K = K (a.2.1.1) := Fld.ld1 (r := Q_flurrylaw19_world) (Fld.snd (Fld.fst (Fld.fst Fld.self))) hg K
theorem L_flurrylaw19_world__line {h : Heap} {g : Nat} {t : TypeId} {fr : Nat × Nat} {a} (hg : h[g]? = some (.cells (Rdr.cells Q_flurrylaw19_world a).toArray t fr)) (K : Value → Prop) : ld1 (.pointer (some ⟨g, 3, none⟩)) h K = K (a.2.2.1) := Fld.ld1 (r := Q_flurrylaw19_world) (Fld.snd (Fld.snd (Fld.fst Fld.self))) hg K
theorem St_flurrylaw19_world__line {w0 w : World} {As : List Asn} {g : Nat} {t : TypeId} {a} {b} {K : World → Prop} (hs : Sep w0 w (blk g (Rdr.cells Q_flurrylaw19_world a).toArray t :: As)) (h1 : b.oneCell' = true) (h : ∀ w', Sep w0 w' (blk g (Rdr.cells Q_flurrylaw19_world (a.1, a.2.1, b, a.2.2.2)).toArray t :: As) → K w') : st1 (.pointer (some ⟨g, 3, none⟩)) (b) w K := Fld.stV (r := Q_flurrylaw19_world) (s := qv) (Fld.snd (Fld.snd (Fld.fst Fld.self))) rfl hs h1 h
theorem L_flurrylaw19_world__gone {h : Heap} {g : Nat} {t : TypeId} {fr : Nat × Nat} {a} (hg : h[g]? = some (.cells (Rdr.cells Q_flurrylaw19_world a).toArray t fr)) (K : Value → Prop) : ld1 (.pointer (some ⟨g, 4, none⟩)) h K = K (a.2.2.2) := Fld.ld1 (r := Q_flurrylaw19_world) (Fld.snd (Fld.snd (Fld.snd Fld.self))) hg K
theorem St_flurrylaw19_world__gone {w0 w : World} {As : List Asn} {g : Nat} {t : TypeId} {a} {b} {K : World → Prop} (hs : Sep w0 w (blk g (Rdr.cells Q_flurrylaw19_world a).toArray t :: As)) (h1 : b.oneCell' = true) (h : ∀ w', Sep w0 w' (blk g (Rdr.cells Q_flurrylaw19_world (a.1, a.2.1, a.2.2.1, b)).toArray t :: As) → K w') : st1 (.pointer (some ⟨g, 4, none⟩)) (b) w K := Fld.stV (r := Q_flurrylaw19_world) (s := qv) (Fld.snd (Fld.snd (Fld.snd Fld.self))) rfl hs h1 h
theorem pl_flurrylaw19_world : ((fsOf P T_flurrylaw19_world).toList.mapM fun f : Field => (P.info? f.type).map fun i => (f.offset, i.size)) = some (#[(0, 1), (1, 2), (3, 1), (4, 1)] : Array (Nat × Nat)).toList := by kernel_rfl
theorem z_flurrylaw19_world : ((P.info? T_flurrylaw19_world).bind fun it => it.zero.map fun z => z.cells) = some (Rdr.cells Q_flurrylaw19_world (((Value.pointer none)), (((Value.slice none 0 0)), ((Value.slice none 0 0))), ((Value.slice none 0 0)), ((Value.slice none 0 0)))).toArray := by kernel_rfl
abbrev Q_api_Snow := (Rdr.pair qv (Rdr.pair (rVec 32) (Rdr.pair (rVec 32) (Rdr.pair (rInt .i64) rBool))))
theorem L_api_Snow {h : Heap} {g : Nat} {t : TypeId} {fr : Nat × Nat} {a} (hg : h[g]? = some (.cells (Rdr.cells Q_api_Snow a).toArray t fr)) (K : Value → Prop) : ldN 67 (.pointer (some ⟨g, 0, none⟩)) h K = K (.agg (Rdr.cells Q_api_Snow a).toArray) := Fld.ldN (r := Q_api_Snow) (s := Q_api_Snow) Fld.self hg K
theorem St_api_Snow {w0 w : World} {As : List Asn} {g : Nat} {t : TypeId} {a} {b} {K : World → Prop} (hs : Sep w0 w (blk g (Rdr.cells Q_api_Snow a).toArray t :: As)) (h1 : ∀ u ∈ Rdr.cells Q_api_Snow b, u.oneCell' = true) (h : ∀ w', Sep w0 w' (blk g (Rdr.cells Q_api_Snow b).toArray t :: As) → K w') : stN 67 (.pointer (some ⟨g, 0, none⟩)) (.agg (Rdr.cells Q_api_Snow b).toArray) w K := Fld.stN (r := Q_api_Snow) (s := Q_api_Snow) Fld.self hs h1 h
theorem L_api_Snow__List {h : Heap} {g : Nat} {t : TypeId} {fr : Nat × Nat} {a} (hg : h[g]? = some (.cells (Rdr.cells Q_api_Snow a).toArray t fr)) (K : Value → Prop) : ld1 (.pointer (some ⟨g, 0, none⟩)) h K = K (a.1) := Fld.ld1 (r := Q_api_Snow) (Fld.fst Fld.self) hg K
theorem St_api_Snow__List {w0 w : World} {As : List Asn} {g : Nat} {t : TypeId} {a} {b} {K : World → Prop} (hs : Sep w0 w (blk g (Rdr.cells Q_api_Snow a).toArray t :: As)) (h1 : b.oneCell' = true) (h : ∀ w', Sep w0 w' (blk g (Rdr.cells Q_api_Snow (b, a.2.1, a.2.2.1, a.2.2.2.1, a.2.2.2.2)).toArray t :: As) → K w') : st1 (.pointer (some ⟨g, 0, none⟩)) (b) w K := Fld.stV (r := Q_api_Snow) (s := qv) (Fld.fst Fld.self) rfl hs h1 h
theorem L_api_Snow__Pref {h : Heap} {g : Nat} {t : TypeId} {fr : Nat × Nat} {a} (hg : h[g]? = some (.cells (Rdr.cells Q_api_Snow a).toArray t fr)) (K : Value → Prop) : ldN 32 (.pointer (some ⟨g, 1, none⟩)) h K = K (.agg (Rdr.cells (rVec 32) a.2.1).toArray) := Fld.ldN (r := Q_api_Snow) (s := (rVec 32)) (Fld.snd (Fld.fst Fld.self)) hg K
theorem St_api_Snow__Pref {w0 w : World} {As : List Asn} {g : Nat} {t : TypeId} {a} {b} {K : World → Prop} (hs : Sep w0 w (blk g (Rdr.cells Q_api_Snow a).toArray t :: As)) (h1 : ∀ u ∈ Rdr.cells (rVec 32) b, u.oneCell' = true) (h : ∀ w', Sep w0 w' (blk g (Rdr.cells Q_api_Snow (a.1, b, a.2.2.1, a.2.2.2.1, a.2.2.2.2)).toArray t :: As) → K w') : stN 32 (.pointer (some ⟨g, 1, none⟩)) (.agg (Rdr.cells (rVec 32) b).toArray) w K := Fld.stN (r := Q_api_Snow) (s := (rVec 32)) (Fld.snd (Fld.fst Fld.self)) hs h1 h
theorem L_api_Snow__Flake {h : Heap} {g : Nat} {t : TypeId} {fr : Nat × Nat} {a} (hg : h[g]? = some (.cells (Rdr.cells Q_api_Snow a).toArray t fr)) (K : Value → Prop) : ldN 32 (.pointer (some ⟨g, 33, none⟩)) h K = K (.agg (Rdr.cells (rVec 32) a.2.2.1).toArray) := Fld.ldN (r := Q_api_Snow) (s := (rVec 32)) (Fld.snd (Fld.snd (Fld.fst Fld.self))) hg K
theorem St_api_Snow__Flake {w0 w : World} {As : List Asn} {g : Nat} {t : TypeId} {a} {b} {K : World → Prop} (hs : Sep w0 w (blk g (Rdr.cells Q_api_Snow a).toArray t :: As)) (h1 : ∀ u ∈ Rdr.cells (rVec 32) b, u.oneCell' = true) (h : ∀ w', Sep w0 w' (blk g (Rdr.cells Q_api_Snow (a.1, a.2.1, b, a.2.2.2.1, a.2.2.2.2)).toArray t :: As) → K w') : stN 32 (.pointer (some ⟨g, 33, none⟩)) (.agg (Rdr.cells (rVec 32) b).toArray) w K := Fld.stN (r := Q_api_Snow) (s := (rVec 32)) (Fld.snd (Fld.snd (Fld.fst Fld.self))) hs h1 h
theorem L_api_Snow__Conf {h : Heap} {g : Nat} {t : TypeId} {fr : Nat × Nat} {a} (hg : h[g]? = some (.cells (Rdr.cells Q_api_Snow a).toArray t fr)) (K : Value → Prop) : ld1 (.pointer (some ⟨g, 65, none⟩)) h K = K (.int .i64 a.2.2.2.1) := Fld.ldI (r := Q_api_Snow) (Fld.snd (Fld.snd (Fld.snd (Fld.fst Fld.self)))) hg K
theorem St_api_Snow__Conf {w0 w : World} {As : List Asn} {g : Nat} {t : TypeId} {a} {b} {K : World → Prop} (hs : Sep w0 w (blk g (Rdr.cells Q_api_Snow a).toArray t :: As)) (h : ∀ w', Sep w0 w' (blk g (Rdr.cells Q_api_Snow (a.1, a.2.1, a.2.2.1, b, a.2.2.2.2)).toArray t :: As) → K w') : st1 (.pointer (some ⟨g, 65, none⟩)) (.int .i64 b) w K := Fld.stV (r := Q_api_Snow) (s := (rInt .i64)) (Fld.snd (Fld.snd (Fld.snd (Fld.fst Fld.self)))) rfl hs rfl h
theorem L_api_Snow__Done {h : Heap} {g : Nat} {t : TypeId} {fr : Nat × Nat} {a} (hg : h[g]? = some (.cells (Rdr.cells Q_api_Snow a).toArray t fr)) (K : Value → Prop) : ld1 (.pointer (some ⟨g, 66, none⟩)) h K = K (.bool a.2.2.2.2) := Fld.ldB (r := Q_api_Snow) (Fld.snd (Fld.snd (Fld.snd (Fld.snd Fld.self)))) hg K
theorem St_api_Snow__Done {w0 w : World} {As : List Asn} {g : Nat} {t : TypeId} {a} {b} {K : World → Prop} (hs : Sep w0 w (blk g (Rdr.cells Q_api_Snow a).toArray t :: As)) (h : ∀ w', Sep w0 w' (blk g (Rdr.cells Q_api_Snow (a.1, a.2.1, a.2.2.1, a.2.2.2.1, b)).toArray t :: As) → K w') : st1 (.pointer (some ⟨g, 66, none⟩)) (.bool b) w K := Fld.stV (r := Q_api_Snow) (s := rBool) (Fld.snd (Fld.snd (Fld.snd (Fld.snd Fld.self)))) rfl hs rfl h
theorem one_api_Snow {a} (h0 : (a.1).oneCell' = true) : ∀ u ∈ Rdr.cells Q_api_Snow a, u.oneCell' = true := (onePair (oneV h0) (onePair oneVec (onePair oneVec (onePair oneI oneB))))
theorem A_api_Snow (w : World) : (Instr.alloc T_api_Snow true (.tuple #[])).run P w = .ok (.pointer (some ⟨w.heap.size, 0, none⟩)) (w.alloc (.cells (Rdr.cells Q_api_Snow (((Value.slice none 0 0)), (vz 32), (vz 32), (0 : Int), false)).toArray T_api_Snow)) := by kernel_rfl
theorem pl_api_Snow : ((fsOf P T_api_Snow).toList.mapM fun f : Field => (P.info? f.type).map fun i => (f.offset, i.size)) = some (#[(0, 1), (1, 32), (33, 32), (65, 1), (66, 1)] : Array (Nat × Nat)).toList := by kernel_rfl
theorem z_api_Snow : ((P.info? T_api_Snow).bind fun it => it.zero.map fun z => z.cells) = some (Rdr.cells Q_api_Snow (((Value.slice none 0 0)), (vz 32), (vz 32), (0 : Int), false)).toArray := by kernel_rfl
abbrev Q_api_Vote := (Rdr.pair (rVec 32) (rInt .i64))
theorem L_api_Vote {h : Heap} {g : Nat} {t : TypeId} {fr : Nat × Nat} {a} (hg : h[g]? = some (.cells (Rdr.cells Q_api_Vote a).toArray t fr)) (K : Value → Prop) : ldN 33 (.pointer (some ⟨g, 0, none⟩)) h K = K (.agg (Rdr.cells Q_api_Vote a).toArray) := Fld.ldN (r := Q_api_Vote) (s := Q_api_Vote) Fld.self hg K
theorem St_api_Vote {w0 w : World} {As : List Asn} {g : Nat} {t : TypeId} {a} {b} {K : World → Prop} (hs : Sep w0 w (blk g (Rdr.cells Q_api_Vote a).toArray t :: As)) (h1 : ∀ u ∈ Rdr.cells Q_api_Vote b, u.oneCell' = true) (h : ∀ w', Sep w0 w' (blk g (Rdr.cells Q_api_Vote b).toArray t :: As) → K w') : stN 33 (.pointer (some ⟨g, 0, none⟩)) (.agg (Rdr.cells Q_api_Vote b).toArray) w K := Fld.stN (r := Q_api_Vote) (s := Q_api_Vote) Fld.self hs h1 h
theorem L_api_Vote__ID {h : Heap} {g : Nat} {t : TypeId} {fr : Nat × Nat} {a} (hg : h[g]? = some (.cells (Rdr.cells Q_api_Vote a).toArray t fr)) (K : Value → Prop) : ldN 32 (.pointer (some ⟨g, 0, none⟩)) h K = K (.agg (Rdr.cells (rVec 32) a.1).toArray) := Fld.ldN (r := Q_api_Vote) (s := (rVec 32)) (Fld.fst Fld.self) hg K
theorem LA_api_Vote__ID {h : Heap} {g o : Nat} {a} (hg : At h g o (Rdr.cells Q_api_Vote a)) (K : Value → Prop) : ldN 32 (.pointer (some ⟨g, o, none⟩)) h K = K (.agg (Rdr.cells (rVec 32) a.1).toArray) := Fld.ldNA (r := Q_api_Vote) (s := (rVec 32)) (Fld.fst Fld.self) hg K
theorem L_api_Vote__N {h : Heap} {g : Nat} {t : TypeId} {fr : Nat × Nat} {a} (hg : h[g]? = some (.cells (Rdr.cells Q_api_Vote a).toArray t fr)) (K : Value → Prop) : ld1 (.pointer (some ⟨g, 32, none⟩)) h K = K (.int .i64 a.2) := Fld.ldI (r := Q_api_Vote) (Fld.snd Fld.self) hg K
theorem LA_api_Vote__N {h : Heap} {g o : Nat} {a} (hg : At h g o (Rdr.cells Q_api_Vote a)) (K : Value → Prop) : ld1 (.pointer (some ⟨g, o + 32, none⟩)) h K = K (.int .i64 a.2) := Fld.ldI' (r := Q_api_Vote) (Fld.snd Fld.self) hg K
theorem A_api_Vote (w : World) : (Instr.alloc T_api_Vote true (.tuple #[])).run P w = .ok (.pointer (some ⟨w.heap.size, 0, none⟩)) (w.alloc (.cells (Rdr.cells Q_api_Vote ((vz 32), (0 : Int))).toArray T_api_Vote)) := by kernel_rfl
theorem pl_api_Vote : ((fsOf P T_api_Vote).toList.mapM fun f : Field => (P.info? f.type).map fun i => (f.offset, i.size)) = some (#[(0, 32), (32, 1)] : Array (Nat × Nat)).toList := by kernel_rfl
theorem z_api_Vote : ((P.info? T_api_Vote).bind fun it => it.zero.map fun z => z.cells) = some (Rdr.cells Q_api_Vote ((vz 32), (0 : Int))).toArray := by kernel_rfl
abbrev Q_topo_Topo := (Rdr.pair qv (Rdr.pair Q_api_Params qv))
theorem L_topo_Topo {h : Heap} {g : Nat} {t : TypeId} {fr : Nat × Nat} {a} (hg : h[g]? = some (.cells (Rdr.cells Q_topo_Topo a).toArray t fr)) (K : Value → Prop) : ldN 6 (.pointer (some ⟨g, 0, none⟩)) h K = K (.agg (Rdr.cells Q_topo_Topo a).toArray) := Fld.ldN (r := Q_topo_Topo) (s := Q_topo_Topo) Fld.self hg K
theorem L_topo_Topo__inner {h : Heap} {g : Nat} {t : TypeId} {fr : Nat × Nat} {a} (hg : h[g]? = some (.cells (Rdr.cells Q_topo_Topo a).toArray t fr)) (K : Value → Prop) : ld1 (.pointer (some ⟨g, 0, none⟩)) h K = K (a.1) := Fld.ld1 (r := Q_topo_Topo) (Fld.fst Fld.self) hg K
theorem L_topo_Topo__p {h : Heap} {g : Nat} {t : TypeId} {fr : Nat × Nat} {a} (hg : h[g]? = some (.cells (Rdr.cells Q_topo_Topo a).toArray t fr)) (K : Value → Prop) : ldN 4 (.pointer (some ⟨g, 1, none⟩)) h K = K (.agg (Rdr.cells Q_api_Params a.2.1).toArray) := Fld.ldN (r := Q_topo_Topo) (s := Q_api_Params) (Fld.snd (Fld.fst Fld.self)) hg K
theorem L_topo_Topo__p_K {h : Heap} {g : Nat} {t : TypeId} {fr : Nat × Nat} {a} (hg : h[g]? = some (.cells (Rdr.cells Q_topo_Topo a).toArray t fr)) (K : Value → Prop) : ld1 (.pointer (some ⟨g, 1, none⟩)) h K = K (.int .i64 a.2.1.1) := Fld.ldI (r := Q_topo_Topo) (Fld.snd (Fld.fst (Fld.fst Fld.self))) hg K
theorem L_topo_Topo__p_AlphaPref {h : Heap} {g : Nat} {t : TypeId} {fr : Nat × Nat} {a} (hg : h[g]? = some (.cells (Rdr.cells Q_topo_Topo a).toArray t fr)) (K : Value → Prop) : ld1 (.pointer (some ⟨g, 2, none⟩)) h K = K (.int .i64 a.2.1.2.1) := Fld.ldI (r := Q_topo_Topo) (Fld.snd (Fld.fst (Fld.snd (Fld.fst Fld.self)))) hg K
theorem L_topo_Topo__p_AlphaConf {h : Heap} {g : Nat} {t : TypeId} {fr : Nat × Nat} {a} (hg : h[g]? = some (.cells (Rdr.cells Q_topo_Topo a).toArray t fr)) (K : Value → Prop) : ld1 (.pointer (some ⟨g, 3, none⟩)) h K = K (.int .i64 a.2.1.2.2.1) := Fld.ldI (r := Q_topo_Topo) (Fld.snd (Fld.fst (Fld.snd (Fld.snd (Fld.fst Fld.self))))) hg K
theorem L_topo_Topo__p_Beta {h : Heap} {g : Nat} {t : TypeId} {fr : Nat × Nat} {a} (hg : h[g]? = some (.cells (Rdr.cells Q_topo_Topo a).toArray t fr)) (K : Value → Prop) : ld1 (.pointer (some ⟨g, 4, none⟩)) h K = K (.int .i64 a.2.1.2.2.2) := Fld.ldI (r := Q_topo_Topo) (Fld.snd (Fld.fst (Fld.snd (Fld.snd (Fld.snd Fld.self))))) hg K
theorem L_topo_Topo__snows {h : Heap} {g : Nat} {t : TypeId} {fr : Nat × Nat} {a} (hg : h[g]? = some (.cells (Rdr.cells Q_topo_Topo a).toArray t fr)) (K : Value → Prop) : ld1 (.pointer (some ⟨g, 5, none⟩)) h K = K (a.2.2) := Fld.ld1 (r := Q_topo_Topo) (Fld.snd (Fld.snd Fld.self)) hg K
theorem St_topo_Topo__snows {w0 w : World} {As : List Asn} {g : Nat} {t : TypeId} {a} {b} {K : World → Prop} (hs : Sep w0 w (blk g (Rdr.cells Q_topo_Topo a).toArray t :: As)) (h1 : b.oneCell' = true) (h : ∀ w', Sep w0 w' (blk g (Rdr.cells Q_topo_Topo (a.1, a.2.1, b)).toArray t :: As) → K w') : st1 (.pointer (some ⟨g, 5, none⟩)) (b) w K := Fld.stV (r := Q_topo_Topo) (s := qv) (Fld.snd (Fld.snd Fld.self)) rfl hs h1 h
theorem pl_topo_Topo : ((fsOf P T_topo_Topo).toList.mapM fun f : Field => (P.info? f.type).map fun i => (f.offset, i.size)) = some (#[(0, 1), (1, 4), (5, 1)] : Array (Nat × Nat)).toList := by kernel_rfl
theorem z_topo_Topo : ((P.info? T_topo_Topo).bind fun it => it.zero.map fun z => z.cells) = some (Rdr.cells Q_topo_Topo (((Value.pointer none)), ((0 : Int), (0 : Int), (0 : Int), (0 : Int)), ((Value.map none)))).toArray := by kernel_rfl
abbrev Q_flurrylaw19_For := (Rdr.pair (rInt .u8) (rInt .i64))
theorem L_flurrylaw19_For {h : Heap} {g : Nat} {t : TypeId} {fr : Nat × Nat} {a} (hg : h[g]? = some (.cells (Rdr.cells Q_flurrylaw19_For a).toArray t fr)) (K : Value → Prop) : ldN 2 (.pointer (some ⟨g, 0, none⟩)) h K = K (.agg (Rdr.cells Q_flurrylaw19_For a).toArray) := Fld.ldN (r := Q_flurrylaw19_For) (s := Q_flurrylaw19_For) Fld.self hg K
theorem St_flurrylaw19_For {w0 w : World} {As : List Asn} {g : Nat} {t : TypeId} {a} {b} {K : World → Prop} (hs : Sep w0 w (blk g (Rdr.cells Q_flurrylaw19_For a).toArray t :: As)) (h1 : ∀ u ∈ Rdr.cells Q_flurrylaw19_For b, u.oneCell' = true) (h : ∀ w', Sep w0 w' (blk g (Rdr.cells Q_flurrylaw19_For b).toArray t :: As) → K w') : stN 2 (.pointer (some ⟨g, 0, none⟩)) (.agg (Rdr.cells Q_flurrylaw19_For b).toArray) w K := Fld.stN (r := Q_flurrylaw19_For) (s := Q_flurrylaw19_For) Fld.self hs h1 h
theorem L_flurrylaw19_For__K {h : Heap} {g : Nat} {t : TypeId} {fr : Nat × Nat} {a} (hg : h[g]? = some (.cells (Rdr.cells Q_flurrylaw19_For a).toArray t fr)) (K : Value → Prop) : ld1 (.pointer (some ⟨g, 0, none⟩)) h K = K (.int .u8 a.1) := Fld.ldI (r := Q_flurrylaw19_For) (Fld.fst Fld.self) hg K
theorem L_flurrylaw19_For__N {h : Heap} {g : Nat} {t : TypeId} {fr : Nat × Nat} {a} (hg : h[g]? = some (.cells (Rdr.cells Q_flurrylaw19_For a).toArray t fr)) (K : Value → Prop) : ld1 (.pointer (some ⟨g, 1, none⟩)) h K = K (.int .i64 a.2) := Fld.ldI (r := Q_flurrylaw19_For) (Fld.snd Fld.self) hg K
theorem one_flurrylaw19_For {a}  : ∀ u ∈ Rdr.cells Q_flurrylaw19_For a, u.oneCell' = true := (onePair oneI oneI)
theorem A_flurrylaw19_For (w : World) : (Instr.alloc T_flurrylaw19_For true (.tuple #[])).run P w = .ok (.pointer (some ⟨w.heap.size, 0, none⟩)) (w.alloc (.cells (Rdr.cells Q_flurrylaw19_For ((0 : Int), (0 : Int))).toArray T_flurrylaw19_For)) := by kernel_rfl
abbrev Q_tree_Tree := (Rdr.pair rBool (Rdr.pair (rVec 32) (Rdr.pair (rInt .i64) (Rdr.pair (rInt .i64) (Rdr.pair qv qv)))))
theorem L_tree_Tree {h : Heap} {g : Nat} {t : TypeId} {fr : Nat × Nat} {a} (hg : h[g]? = some (.cells (Rdr.cells Q_tree_Tree a).toArray t fr)) (K : Value → Prop) : ldN 37 (.pointer (some ⟨g, 0, none⟩)) h K = K (.agg (Rdr.cells Q_tree_Tree a).toArray) := Fld.ldN (r := Q_tree_Tree) (s := Q_tree_Tree) Fld.self hg K
theorem L_tree_Tree__made {h : Heap} {g : Nat} {t : TypeId} {fr : Nat × Nat} {a} (hg : h[g]? = some (.cells (Rdr.cells Q_tree_Tree a).toArray t fr)) (K : Value → Prop) : ld1 (.pointer (some ⟨g, 0, none⟩)) h K = K (.bool a.1) := Fld.ldB (r := Q_tree_Tree) (Fld.fst Fld.self) hg K
theorem L_tree_Tree__root {h : Heap} {g : Nat} {t : TypeId} {fr : Nat × Nat} {a} (hg : h[g]? = some (.cells (Rdr.cells Q_tree_Tree a).toArray t fr)) (K : Value → Prop) : ldN 32 (.pointer (some ⟨g, 1, none⟩)) h K = K (.agg (Rdr.cells (rVec 32) a.2.1).toArray) := Fld.ldN (r := Q_tree_Tree) (s := (rVec 32)) (Fld.snd (Fld.fst Fld.self)) hg K
theorem St_tree_Tree__root {w0 w : World} {As : List Asn} {g : Nat} {t : TypeId} {a} {b} {K : World → Prop} (hs : Sep w0 w (blk g (Rdr.cells Q_tree_Tree a).toArray t :: As)) (h1 : ∀ u ∈ Rdr.cells (rVec 32) b, u.oneCell' = true) (h : ∀ w', Sep w0 w' (blk g (Rdr.cells Q_tree_Tree (a.1, b, a.2.2.1, a.2.2.2.1, a.2.2.2.2.1, a.2.2.2.2.2)).toArray t :: As) → K w') : stN 32 (.pointer (some ⟨g, 1, none⟩)) (.agg (Rdr.cells (rVec 32) b).toArray) w K := Fld.stN (r := Q_tree_Tree) (s := (rVec 32)) (Fld.snd (Fld.fst Fld.self)) hs h1 h
theorem L_tree_Tree__height {h : Heap} {g : Nat} {t : TypeId} {fr : Nat × Nat} {a} (hg : h[g]? = some (.cells (Rdr.cells Q_tree_Tree a).toArray t fr)) (K : Value → Prop) : ld1 (.pointer (some ⟨g, 33, none⟩)) h K = K (.int .i64 a.2.2.1) := Fld.ldI (r := Q_tree_Tree) (Fld.snd (Fld.snd (Fld.fst Fld.self))) hg K
theorem St_tree_Tree__height {w0 w : World} {As : List Asn} {g : Nat} {t : TypeId} {a} {b} {K : World → Prop} (hs : Sep w0 w (blk g (Rdr.cells Q_tree_Tree a).toArray t :: As)) (h : ∀ w', Sep w0 w' (blk g (Rdr.cells Q_tree_Tree (a.1, a.2.1, b, a.2.2.2.1, a.2.2.2.2.1, a.2.2.2.2.2)).toArray t :: As) → K w') : st1 (.pointer (some ⟨g, 33, none⟩)) (.int .i64 b) w K := Fld.stV (r := Q_tree_Tree) (s := (rInt .i64)) (Fld.snd (Fld.snd (Fld.fst Fld.self))) rfl hs rfl h
theorem L_tree_Tree__most {h : Heap} {g : Nat} {t : TypeId} {fr : Nat × Nat} {a} (hg : h[g]? = some (.cells (Rdr.cells Q_tree_Tree a).toArray t fr)) (K : Value → Prop) : ld1 (.pointer (some ⟨g, 34, none⟩)) h K = K (.int .i64 a.2.2.2.1) := Fld.ldI (r := Q_tree_Tree) (Fld.snd (Fld.snd (Fld.snd (Fld.fst Fld.self)))) hg K
theorem L_tree_Tree__blocks {h : Heap} {g : Nat} {t : TypeId} {fr : Nat × Nat} {a} (hg : h[g]? = some (.cells (Rdr.cells Q_tree_Tree a).toArray t fr)) (K : Value → Prop) : ld1 (.pointer (some ⟨g, 35, none⟩)) h K = K (a.2.2.2.2.1) := Fld.ld1 (r := Q_tree_Tree) (Fld.snd (Fld.snd (Fld.snd (Fld.snd (Fld.fst Fld.self))))) hg K
theorem L_tree_Tree__order {h : Heap} {g : Nat} {t : TypeId} {fr : Nat × Nat} {a} (hg : h[g]? = some (.cells (Rdr.cells Q_tree_Tree a).toArray t fr)) (K : Value → Prop) : ld1 (.pointer (some ⟨g, 36, none⟩)) h K = K (a.2.2.2.2.2) := Fld.ld1 (r := Q_tree_Tree) (Fld.snd (Fld.snd (Fld.snd (Fld.snd (Fld.snd Fld.self))))) hg K
theorem St_tree_Tree__order {w0 w : World} {As : List Asn} {g : Nat} {t : TypeId} {a} {b} {K : World → Prop} (hs : Sep w0 w (blk g (Rdr.cells Q_tree_Tree a).toArray t :: As)) (h1 : b.oneCell' = true) (h : ∀ w', Sep w0 w' (blk g (Rdr.cells Q_tree_Tree (a.1, a.2.1, a.2.2.1, a.2.2.2.1, a.2.2.2.2.1, b)).toArray t :: As) → K w') : st1 (.pointer (some ⟨g, 36, none⟩)) (b) w K := Fld.stV (r := Q_tree_Tree) (s := qv) (Fld.snd (Fld.snd (Fld.snd (Fld.snd (Fld.snd Fld.self))))) rfl hs h1 h
theorem pl_tree_Tree : ((fsOf P T_tree_Tree).toList.mapM fun f : Field => (P.info? f.type).map fun i => (f.offset, i.size)) = some (#[(0, 1), (1, 32), (33, 1), (34, 1), (35, 1), (36, 1)] : Array (Nat × Nat)).toList := by kernel_rfl
theorem z_tree_Tree : ((P.info? T_tree_Tree).bind fun it => it.zero.map fun z => z.cells) = some (Rdr.cells Q_tree_Tree (false, (vz 32), (0 : Int), (0 : Int), ((Value.map none)), ((Value.slice none 0 0)))).toArray := by kernel_rfl
abbrev Q_flurryref11_Tree := (Rdr.pair (rVec 32) (Rdr.pair (rInt .i64) (Rdr.pair (rInt .i64) qv)))
abbrev Q_flurryref11_Node := (Rdr.pair (rVec 32) Q_api_Block)
abbrev Q_api_Choice := (Rdr.pair (rVec 32) (rInt .i64))
theorem L_api_Choice {h : Heap} {g : Nat} {t : TypeId} {fr : Nat × Nat} {a} (hg : h[g]? = some (.cells (Rdr.cells Q_api_Choice a).toArray t fr)) (K : Value → Prop) : ldN 33 (.pointer (some ⟨g, 0, none⟩)) h K = K (.agg (Rdr.cells Q_api_Choice a).toArray) := Fld.ldN (r := Q_api_Choice) (s := Q_api_Choice) Fld.self hg K
theorem St_api_Choice {w0 w : World} {As : List Asn} {g : Nat} {t : TypeId} {a} {b} {K : World → Prop} (hs : Sep w0 w (blk g (Rdr.cells Q_api_Choice a).toArray t :: As)) (h1 : ∀ u ∈ Rdr.cells Q_api_Choice b, u.oneCell' = true) (h : ∀ w', Sep w0 w' (blk g (Rdr.cells Q_api_Choice b).toArray t :: As) → K w') : stN 33 (.pointer (some ⟨g, 0, none⟩)) (.agg (Rdr.cells Q_api_Choice b).toArray) w K := Fld.stN (r := Q_api_Choice) (s := Q_api_Choice) Fld.self hs h1 h
theorem L_api_Choice__ID {h : Heap} {g : Nat} {t : TypeId} {fr : Nat × Nat} {a} (hg : h[g]? = some (.cells (Rdr.cells Q_api_Choice a).toArray t fr)) (K : Value → Prop) : ldN 32 (.pointer (some ⟨g, 0, none⟩)) h K = K (.agg (Rdr.cells (rVec 32) a.1).toArray) := Fld.ldN (r := Q_api_Choice) (s := (rVec 32)) (Fld.fst Fld.self) hg K
theorem L_api_Choice__Strength {h : Heap} {g : Nat} {t : TypeId} {fr : Nat × Nat} {a} (hg : h[g]? = some (.cells (Rdr.cells Q_api_Choice a).toArray t fr)) (K : Value → Prop) : ld1 (.pointer (some ⟨g, 32, none⟩)) h K = K (.int .i64 a.2) := Fld.ldI (r := Q_api_Choice) (Fld.snd Fld.self) hg K
theorem LA_api_Choice__Strength {h : Heap} {g o : Nat} {a} (hg : At h g o (Rdr.cells Q_api_Choice a)) (K : Value → Prop) : ld1 (.pointer (some ⟨g, o + 32, none⟩)) h K = K (.int .i64 a.2) := Fld.ldI' (r := Q_api_Choice) (Fld.snd Fld.self) hg K
theorem one_api_Choice {a}  : ∀ u ∈ Rdr.cells Q_api_Choice a, u.oneCell' = true := (onePair oneVec oneI)
theorem A_api_Choice (w : World) : (Instr.alloc T_api_Choice true (.tuple #[])).run P w = .ok (.pointer (some ⟨w.heap.size, 0, none⟩)) (w.alloc (.cells (Rdr.cells Q_api_Choice ((vz 32), (0 : Int))).toArray T_api_Choice)) := by kernel_rfl
theorem pl_api_Choice : ((fsOf P T_api_Choice).toList.mapM fun f : Field => (P.info? f.type).map fun i => (f.offset, i.size)) = some (#[(0, 32), (32, 1)] : Array (Nat × Nat)).toList := by kernel_rfl
theorem z_api_Choice : ((P.info? T_api_Choice).bind fun it => it.zero.map fun z => z.cells) = some (Rdr.cells Q_api_Choice ((vz 32), (0 : Int))).toArray := by kernel_rfl
abbrev Q_pack_kept := (Rdr.pair rBool (Rdr.pair qv (rInt .i64)))
abbrev Q_pack_Packer := (Rdr.pair Q_pack_kept (rInt .i64))
theorem L_pack_Packer {h : Heap} {g : Nat} {t : TypeId} {fr : Nat × Nat} {a} (hg : h[g]? = some (.cells (Rdr.cells Q_pack_Packer a).toArray t fr)) (K : Value → Prop) : ldN 4 (.pointer (some ⟨g, 0, none⟩)) h K = K (.agg (Rdr.cells Q_pack_Packer a).toArray) := Fld.ldN (r := Q_pack_Packer) (s := Q_pack_Packer) Fld.self hg K
theorem L_pack_Packer__kept {h : Heap} {g : Nat} {t : TypeId} {fr : Nat × Nat} {a} (hg : h[g]? = some (.cells (Rdr.cells Q_pack_Packer a).toArray t fr)) (K : Value → Prop) : ldN 3 (.pointer (some ⟨g, 0, none⟩)) h K = K (.agg (Rdr.cells Q_pack_kept a.1).toArray) := Fld.ldN (r := Q_pack_Packer) (s := Q_pack_kept) (Fld.fst Fld.self) hg K
theorem L_pack_Packer__kept_made {h : Heap} {g : Nat} {t : TypeId} {fr : Nat × Nat} {a} (hg : h[g]? = some (.cells (Rdr.cells Q_pack_Packer a).toArray t fr)) (K : Value → Prop) : ld1 (.pointer (some ⟨g, 0, none⟩)) h K = K (.bool a.1.1) := Fld.ldB (r := Q_pack_Packer) (Fld.fst (Fld.fst Fld.self)) hg K
theorem St_pack_Packer__kept_made {w0 w : World} {As : List Asn} {g : Nat} {t : TypeId} {a} {b} {K : World → Prop} (hs : Sep w0 w (blk g (Rdr.cells Q_pack_Packer a).toArray t :: As)) (h : ∀ w', Sep w0 w' (blk g (Rdr.cells Q_pack_Packer ((b, a.1.2.1, a.1.2.2), a.2)).toArray t :: As) → K w') : st1 (.pointer (some ⟨g, 0, none⟩)) (.bool b) w K := Fld.stV (r := Q_pack_Packer) (s := rBool) (Fld.fst (Fld.fst Fld.self)) rfl hs rfl h
theorem L_pack_Packer__kept_b {h : Heap} {g : Nat} {t : TypeId} {fr : Nat × Nat} {a} (hg : h[g]? = some (.cells (Rdr.cells Q_pack_Packer a).toArray t fr)) (K : Value → Prop) : ld1 (.pointer (some ⟨g, 1, none⟩)) h K = K (a.1.2.1) := Fld.ld1 (r := Q_pack_Packer) (Fld.fst (Fld.snd (Fld.fst Fld.self))) hg K
theorem St_pack_Packer__kept_b {w0 w : World} {As : List Asn} {g : Nat} {t : TypeId} {a} {b} {K : World → Prop} (hs : Sep w0 w (blk g (Rdr.cells Q_pack_Packer a).toArray t :: As)) (h1 : b.oneCell' = true) (h : ∀ w', Sep w0 w' (blk g (Rdr.cells Q_pack_Packer ((a.1.1, b, a.1.2.2), a.2)).toArray t :: As) → K w') : st1 (.pointer (some ⟨g, 1, none⟩)) (b) w K := Fld.stV (r := Q_pack_Packer) (s := qv) (Fld.fst (Fld.snd (Fld.fst Fld.self))) rfl hs h1 h
theorem L_pack_Packer__kept_err {h : Heap} {g : Nat} {t : TypeId} {fr : Nat × Nat} {a} (hg : h[g]? = some (.cells (Rdr.cells Q_pack_Packer a).toArray t fr)) (K : Value → Prop) : ld1 (.pointer (some ⟨g, 2, none⟩)) h K = K (.int .i64 a.1.2.2) := Fld.ldI (r := Q_pack_Packer) (Fld.fst (Fld.snd (Fld.snd Fld.self))) hg K
theorem L_pack_Packer__limit {h : Heap} {g : Nat} {t : TypeId} {fr : Nat × Nat} {a} (hg : h[g]? = some (.cells (Rdr.cells Q_pack_Packer a).toArray t fr)) (K : Value → Prop) : ld1 (.pointer (some ⟨g, 3, none⟩)) h K = K (.int .i64 a.2) := Fld.ldI (r := Q_pack_Packer) (Fld.snd Fld.self) hg K
theorem pl_pack_Packer : ((fsOf P T_pack_Packer).toList.mapM fun f : Field => (P.info? f.type).map fun i => (f.offset, i.size)) = some (#[(0, 3), (3, 1)] : Array (Nat × Nat)).toList := by kernel_rfl
theorem z_pack_Packer : ((P.info? T_pack_Packer).bind fun it => it.zero.map fun z => z.cells) = some (Rdr.cells Q_pack_Packer ((false, ((Value.slice none 0 0)), (0 : Int)), (0 : Int))).toArray := by kernel_rfl
theorem A_api_ID (w : World) : (Instr.alloc T_api_ID true (.tuple #[])).run P w = .ok (.pointer (some ⟨w.heap.size, 0, none⟩)) (w.alloc (.cells (Rdr.cells (rVec 32) (vz 32)).toArray T_api_ID)) := by kernel_rfl
theorem L_api_ID {h : Heap} {g : Nat} {t : TypeId} {fr : Nat × Nat} {a} (hg : h[g]? = some (.cells (Rdr.cells (rVec 32) a).toArray t fr)) (K : Value → Prop) : ldN 32 (.pointer (some ⟨g, 0, none⟩)) h K = K (.agg (Rdr.cells (rVec 32) a).toArray) := Fld.ldN (r := rVec 32) (s := rVec 32) Fld.self hg K
theorem St_api_ID {w0 w : World} {As : List Asn} {g : Nat} {t : TypeId} {a} {b} {K : World → Prop} (hs : Sep w0 w (blk g (Rdr.cells (rVec 32) a).toArray t :: As)) (h : ∀ w', Sep w0 w' (blk g (Rdr.cells (rVec 32) b).toArray t :: As) → K w') : stN 32 (.pointer (some ⟨g, 0, none⟩)) (.agg (Rdr.cells (rVec 32) b).toArray) w K := Fld.stN (r := rVec 32) (s := rVec 32) Fld.self hs oneVec h
theorem EQ_api_ID : EqT P T_api_ID (rVec 32) true 2 := eqT_vec U_api_ID U_uint8 (by kernel_rfl) (by kernel_rfl)
theorem eq_api_ID {x y : Operand} {w : World} {a b : Vec 32} (K : Value → Prop) : rdP P (eqS .eql T_api_ID x y (.agg (Rdr.cells (rVec 32) a).toArray) (.agg (Rdr.cells (rVec 32) b).toArray)) w K = K (.bool (decide (a = b))) := eqS_agg EQ_api_ID (by decide) (by kernel_rfl) K
theorem ne_api_ID {x y : Operand} {w : World} {a b : Vec 32} (K : Value → Prop) : rdP P (eqS .neq T_api_ID x y (.agg (Rdr.cells (rVec 32) a).toArray) (.agg (Rdr.cells (rVec 32) b).toArray)) w K = K (.bool (!decide (a = b))) := neS_agg EQ_api_ID (by decide) (by kernel_rfl) K
theorem B_api_Params_0_1_2_3 {b0 : Int} {b1 : Int} {b2 : Int} {b3 : Int} {w : World}  (K : Value → Prop) : rdP P (Instr.build T_api_Params #[(0, .int .i64 b0), (1, .int .i64 b1), (2, .int .i64 b2), (3, .int .i64 b3)]) w K = K (.agg (Rdr.cells Q_api_Params (b0, b1, b2, b3)).toArray) := by
  refine rd_build ?_ K
  refine (built_struct z_api_Params U_api_Params pl_api_Params).trans ?_
  refine Eq.trans (fill_step (r := Q_api_Params) (s := (rInt .i64)) (Fld.fst Fld.self) (a := ((0 : Int), (0 : Int), (0 : Int), (0 : Int))) rfl rfl) ?_
  refine Eq.trans (fill_step (r := Q_api_Params) (s := (rInt .i64)) (Fld.snd (Fld.fst Fld.self)) (a := (b0, (0 : Int), (0 : Int), (0 : Int))) rfl rfl) ?_
  refine Eq.trans (fill_step (r := Q_api_Params) (s := (rInt .i64)) (Fld.snd (Fld.snd (Fld.fst Fld.self))) (a := (b0, b1, (0 : Int), (0 : Int))) rfl rfl) ?_
  refine Eq.trans (fill_step (r := Q_api_Params) (s := (rInt .i64)) (Fld.snd (Fld.snd (Fld.snd Fld.self))) (a := (b0, b1, b2, (0 : Int))) rfl rfl) ?_
  rfl
theorem B_api_Block  {w : World}  (K : Value → Prop) : rdP P (Instr.build T_api_Block #[]) w K = K (.agg (Rdr.cells Q_api_Block ((vz 32), (0 : Int), ((Value.slice none 0 0)))).toArray) := by
  refine rd_build ?_ K
  refine (built_struct z_api_Block U_api_Block pl_api_Block).trans ?_
  rfl
theorem B_api_Block_0_1_2 {b0} {b1 : Int} {b2 : Value} {w : World} (h2 : b2.oneCell' = true) (K : Value → Prop) : rdP P (Instr.build T_api_Block #[(0, .agg (Rdr.cells (rVec 32) b0).toArray), (1, .int .i64 b1), (2, b2)]) w K = K (.agg (Rdr.cells Q_api_Block (b0, b1, b2)).toArray) := by
  refine rd_build ?_ K
  refine (built_struct z_api_Block U_api_Block pl_api_Block).trans ?_
  refine Eq.trans (fill_step (r := Q_api_Block) (s := (rVec 32)) (Fld.fst Fld.self) (a := ((vz 32), (0 : Int), ((Value.slice none 0 0)))) rfl rfl) ?_
  refine Eq.trans (fill_step (r := Q_api_Block) (s := (rInt .i64)) (Fld.snd (Fld.fst Fld.self)) (a := (b0, (0 : Int), ((Value.slice none 0 0)))) rfl rfl) ?_
  refine Eq.trans (fill_step (r := Q_api_Block) (s := qv) (Fld.snd (Fld.snd Fld.self)) (a := (b0, b1, ((Value.slice none 0 0)))) rfl (cells_one h2)) ?_
  rfl
theorem B_api_Block_2 {b2 : Value} {w : World} (h2 : b2.oneCell' = true) (K : Value → Prop) : rdP P (Instr.build T_api_Block #[(2, b2)]) w K = K (.agg (Rdr.cells Q_api_Block ((vz 32), (0 : Int), b2)).toArray) := by
  refine rd_build ?_ K
  refine (built_struct z_api_Block U_api_Block pl_api_Block).trans ?_
  refine Eq.trans (fill_step (r := Q_api_Block) (s := qv) (Fld.snd (Fld.snd Fld.self)) (a := ((vz 32), (0 : Int), ((Value.slice none 0 0)))) rfl (cells_one h2)) ?_
  rfl
theorem B_flurrylaw19_names_0_1 {b0 : Value} {b1 : Value} {w : World} (h0 : b0.oneCell' = true) (h1 : b1.oneCell' = true) (K : Value → Prop) : rdP P (Instr.build T_flurrylaw19_names #[(0, b0), (1, b1)]) w K = K (.agg (Rdr.cells Q_flurrylaw19_names (b0, b1)).toArray) := by
  refine rd_build ?_ K
  refine (built_struct z_flurrylaw19_names U_flurrylaw19_names pl_flurrylaw19_names).trans ?_
  refine Eq.trans (fill_step (r := Q_flurrylaw19_names) (s := qv) (Fld.fst Fld.self) (a := (((Value.slice none 0 0)), ((Value.slice none 0 0)))) rfl (cells_one h0)) ?_
  refine Eq.trans (fill_step (r := Q_flurrylaw19_names) (s := qv) (Fld.snd Fld.self) (a := (b0, ((Value.slice none 0 0)))) rfl (cells_one h1)) ?_
  rfl
theorem B_flurrylaw19_world_0_1 {b0 : Value} {b1} {w : World} (h0 : b0.oneCell' = true) (K : Value → Prop) : rdP P (Instr.build T_flurrylaw19_world #[(0, b0), (1, .agg (Rdr.cells Q_flurrylaw19_names b1).toArray)]) w K = K (.agg (Rdr.cells Q_flurrylaw19_world (b0, b1, ((Value.slice none 0 0)), ((Value.slice none 0 0)))).toArray) := by
  refine rd_build ?_ K
  refine (built_struct z_flurrylaw19_world U_flurrylaw19_world pl_flurrylaw19_world).trans ?_
  refine Eq.trans (fill_step (r := Q_flurrylaw19_world) (s := qv) (Fld.fst Fld.self) (a := (((Value.pointer none)), (((Value.slice none 0 0)), ((Value.slice none 0 0))), ((Value.slice none 0 0)), ((Value.slice none 0 0)))) rfl (cells_one h0)) ?_
  refine Eq.trans (fill_step (r := Q_flurrylaw19_world) (s := Q_flurrylaw19_names) (Fld.snd (Fld.fst Fld.self)) (a := (b0, (((Value.slice none 0 0)), ((Value.slice none 0 0))), ((Value.slice none 0 0)), ((Value.slice none 0 0)))) rfl rfl) ?_
  rfl
theorem B_api_Snow  {w : World}  (K : Value → Prop) : rdP P (Instr.build T_api_Snow #[]) w K = K (.agg (Rdr.cells Q_api_Snow (((Value.slice none 0 0)), (vz 32), (vz 32), (0 : Int), false)).toArray) := by
  refine rd_build ?_ K
  refine (built_struct z_api_Snow U_api_Snow pl_api_Snow).trans ?_
  rfl
theorem B_api_Snow_0_1_2 {b0 : Value} {b1} {b2} {w : World} (h0 : b0.oneCell' = true) (K : Value → Prop) : rdP P (Instr.build T_api_Snow #[(0, b0), (1, .agg (Rdr.cells (rVec 32) b1).toArray), (2, .agg (Rdr.cells (rVec 32) b2).toArray)]) w K = K (.agg (Rdr.cells Q_api_Snow (b0, b1, b2, (0 : Int), false)).toArray) := by
  refine rd_build ?_ K
  refine (built_struct z_api_Snow U_api_Snow pl_api_Snow).trans ?_
  refine Eq.trans (fill_step (r := Q_api_Snow) (s := qv) (Fld.fst Fld.self) (a := (((Value.slice none 0 0)), (vz 32), (vz 32), (0 : Int), false)) rfl (cells_one h0)) ?_
  refine Eq.trans (fill_step (r := Q_api_Snow) (s := (rVec 32)) (Fld.snd (Fld.fst Fld.self)) (a := (b0, (vz 32), (vz 32), (0 : Int), false)) rfl rfl) ?_
  refine Eq.trans (fill_step (r := Q_api_Snow) (s := (rVec 32)) (Fld.snd (Fld.snd (Fld.fst Fld.self))) (a := (b0, b1, (vz 32), (0 : Int), false)) rfl rfl) ?_
  rfl
theorem B_api_Vote_0_1 {b0} {b1 : Int} {w : World}  (K : Value → Prop) : rdP P (Instr.build T_api_Vote #[(0, .agg (Rdr.cells (rVec 32) b0).toArray), (1, .int .i64 b1)]) w K = K (.agg (Rdr.cells Q_api_Vote (b0, b1)).toArray) := by
  refine rd_build ?_ K
  refine (built_struct z_api_Vote U_api_Vote pl_api_Vote).trans ?_
  refine Eq.trans (fill_step (r := Q_api_Vote) (s := (rVec 32)) (Fld.fst Fld.self) (a := ((vz 32), (0 : Int))) rfl rfl) ?_
  refine Eq.trans (fill_step (r := Q_api_Vote) (s := (rInt .i64)) (Fld.snd Fld.self) (a := (b0, (0 : Int))) rfl rfl) ?_
  rfl
theorem B_topo_Topo_0_1_2 {b0 : Value} {b1} {b2 : Value} {w : World} (h0 : b0.oneCell' = true) (h2 : b2.oneCell' = true) (K : Value → Prop) : rdP P (Instr.build T_topo_Topo #[(0, b0), (1, .agg (Rdr.cells Q_api_Params b1).toArray), (2, b2)]) w K = K (.agg (Rdr.cells Q_topo_Topo (b0, b1, b2)).toArray) := by
  refine rd_build ?_ K
  refine (built_struct z_topo_Topo U_topo_Topo pl_topo_Topo).trans ?_
  refine Eq.trans (fill_step (r := Q_topo_Topo) (s := qv) (Fld.fst Fld.self) (a := (((Value.pointer none)), ((0 : Int), (0 : Int), (0 : Int), (0 : Int)), ((Value.map none)))) rfl (cells_one h0)) ?_
  refine Eq.trans (fill_step (r := Q_topo_Topo) (s := Q_api_Params) (Fld.snd (Fld.fst Fld.self)) (a := (b0, ((0 : Int), (0 : Int), (0 : Int), (0 : Int)), ((Value.map none)))) rfl rfl) ?_
  refine Eq.trans (fill_step (r := Q_topo_Topo) (s := qv) (Fld.snd (Fld.snd Fld.self)) (a := (b0, b1, ((Value.map none)))) rfl (cells_one h2)) ?_
  rfl
theorem B_tree_Tree_0_1_2_3_4 {b0 : Bool} {b1} {b2 : Int} {b3 : Int} {b4 : Value} {w : World} (h4 : b4.oneCell' = true) (K : Value → Prop) : rdP P (Instr.build T_tree_Tree #[(0, .bool b0), (1, .agg (Rdr.cells (rVec 32) b1).toArray), (2, .int .i64 b2), (3, .int .i64 b3), (4, b4)]) w K = K (.agg (Rdr.cells Q_tree_Tree (b0, b1, b2, b3, b4, ((Value.slice none 0 0)))).toArray) := by
  refine rd_build ?_ K
  refine (built_struct z_tree_Tree U_tree_Tree pl_tree_Tree).trans ?_
  refine Eq.trans (fill_step (r := Q_tree_Tree) (s := rBool) (Fld.fst Fld.self) (a := (false, (vz 32), (0 : Int), (0 : Int), ((Value.map none)), ((Value.slice none 0 0)))) rfl rfl) ?_
  refine Eq.trans (fill_step (r := Q_tree_Tree) (s := (rVec 32)) (Fld.snd (Fld.fst Fld.self)) (a := (b0, (vz 32), (0 : Int), (0 : Int), ((Value.map none)), ((Value.slice none 0 0)))) rfl rfl) ?_
  refine Eq.trans (fill_step (r := Q_tree_Tree) (s := (rInt .i64)) (Fld.snd (Fld.snd (Fld.fst Fld.self))) (a := (b0, b1, (0 : Int), (0 : Int), ((Value.map none)), ((Value.slice none 0 0)))) rfl rfl) ?_
  refine Eq.trans (fill_step (r := Q_tree_Tree) (s := (rInt .i64)) (Fld.snd (Fld.snd (Fld.snd (Fld.fst Fld.self)))) (a := (b0, b1, b2, (0 : Int), ((Value.map none)), ((Value.slice none 0 0)))) rfl rfl) ?_
  refine Eq.trans (fill_step (r := Q_tree_Tree) (s := qv) (Fld.snd (Fld.snd (Fld.snd (Fld.snd (Fld.fst Fld.self))))) (a := (b0, b1, b2, b3, ((Value.map none)), ((Value.slice none 0 0)))) rfl (cells_one h4)) ?_
  rfl
theorem B_tree_Tree_0_1_2_3_4_5 {b0 : Bool} {b1} {b2 : Int} {b3 : Int} {b4 : Value} {b5 : Value} {w : World} (h4 : b4.oneCell' = true) (h5 : b5.oneCell' = true) (K : Value → Prop) : rdP P (Instr.build T_tree_Tree #[(0, .bool b0), (1, .agg (Rdr.cells (rVec 32) b1).toArray), (2, .int .i64 b2), (3, .int .i64 b3), (4, b4), (5, b5)]) w K = K (.agg (Rdr.cells Q_tree_Tree (b0, b1, b2, b3, b4, b5)).toArray) := by
  refine rd_build ?_ K
  refine (built_struct z_tree_Tree U_tree_Tree pl_tree_Tree).trans ?_
  refine Eq.trans (fill_step (r := Q_tree_Tree) (s := rBool) (Fld.fst Fld.self) (a := (false, (vz 32), (0 : Int), (0 : Int), ((Value.map none)), ((Value.slice none 0 0)))) rfl rfl) ?_
  refine Eq.trans (fill_step (r := Q_tree_Tree) (s := (rVec 32)) (Fld.snd (Fld.fst Fld.self)) (a := (b0, (vz 32), (0 : Int), (0 : Int), ((Value.map none)), ((Value.slice none 0 0)))) rfl rfl) ?_
  refine Eq.trans (fill_step (r := Q_tree_Tree) (s := (rInt .i64)) (Fld.snd (Fld.snd (Fld.fst Fld.self))) (a := (b0, b1, (0 : Int), (0 : Int), ((Value.map none)), ((Value.slice none 0 0)))) rfl rfl) ?_
  refine Eq.trans (fill_step (r := Q_tree_Tree) (s := (rInt .i64)) (Fld.snd (Fld.snd (Fld.snd (Fld.fst Fld.self)))) (a := (b0, b1, b2, (0 : Int), ((Value.map none)), ((Value.slice none 0 0)))) rfl rfl) ?_
  refine Eq.trans (fill_step (r := Q_tree_Tree) (s := qv) (Fld.snd (Fld.snd (Fld.snd (Fld.snd (Fld.fst Fld.self))))) (a := (b0, b1, b2, b3, ((Value.map none)), ((Value.slice none 0 0)))) rfl (cells_one h4)) ?_
  refine Eq.trans (fill_step (r := Q_tree_Tree) (s := qv) (Fld.snd (Fld.snd (Fld.snd (Fld.snd (Fld.snd Fld.self))))) (a := (b0, b1, b2, b3, b4, ((Value.slice none 0 0)))) rfl (cells_one h5)) ?_
  rfl
theorem B_api_Choice_0 {b0} {w : World}  (K : Value → Prop) : rdP P (Instr.build T_api_Choice #[(0, .agg (Rdr.cells (rVec 32) b0).toArray)]) w K = K (.agg (Rdr.cells Q_api_Choice (b0, (0 : Int))).toArray) := by
  refine rd_build ?_ K
  refine (built_struct z_api_Choice U_api_Choice pl_api_Choice).trans ?_
  refine Eq.trans (fill_step (r := Q_api_Choice) (s := (rVec 32)) (Fld.fst Fld.self) (a := ((vz 32), (0 : Int))) rfl rfl) ?_
  rfl
theorem B_pack_Packer_1 {b1 : Int} {w : World}  (K : Value → Prop) : rdP P (Instr.build T_pack_Packer #[(1, .int .i64 b1)]) w K = K (.agg (Rdr.cells Q_pack_Packer ((false, ((Value.slice none 0 0)), (0 : Int)), b1)).toArray) := by
  refine rd_build ?_ K
  refine (built_struct z_pack_Packer U_pack_Packer pl_pack_Packer).trans ?_
  refine Eq.trans (fill_step (r := Q_pack_Packer) (s := (rInt .i64)) (Fld.snd Fld.self) (a := ((false, ((Value.slice none 0 0)), (0 : Int)), (0 : Int))) rfl rfl) ?_
  rfl
abbrev R_int64 := (rInt .i64)
theorem TR_int64 : Trods P T_int64 R_int64 := trods_int U_int64
abbrev R_int := (rInt .i64)
theorem TR_int : Trods P T_int R_int := trods_int U_int
abbrev R_bool := rBool
theorem TR_bool : Trods P T_bool R_bool := trods_bool U_bool
abbrev R_uint8 := (rNat .u8 256)
theorem TR_uint8 : Trods P T_uint8 R_uint8 := trods_u8 U_uint8
abbrev R_api_Params := (Rdr.pair R_int (Rdr.pair R_int (Rdr.pair R_int R_int)))
theorem TR_api_Params : Trods P T_api_Params R_api_Params := trods_struct U_api_Params (by kernel_rfl) (trodsF_cons (by kernel_rfl) (by kernel_rfl) TR_int (trodsF_cons (by kernel_rfl) (by kernel_rfl) TR_int (trodsF_cons (by kernel_rfl) (by kernel_rfl) TR_int (trodsF_last (by kernel_rfl) (by kernel_rfl) TR_int))))
abbrev R_api_ID := (rVec 32)
theorem TR_api_ID : Trods P T_api_ID R_api_ID := trods_vec U_api_ID U_uint8 (by kernel_rfl) (by kernel_rfl)
abbrev R_flurrylaw19_Start := (Rdr.pair R_api_Params (Rdr.pair R_api_ID (Rdr.pair R_int64 R_int)))
theorem TR_flurrylaw19_Start : Trods P T_flurrylaw19_Start R_flurrylaw19_Start := trods_struct U_flurrylaw19_Start (by kernel_rfl) (trodsF_cons (by kernel_rfl) (by kernel_rfl) TR_api_Params (trodsF_cons (by kernel_rfl) (by kernel_rfl) TR_api_ID (trodsF_cons (by kernel_rfl) (by kernel_rfl) TR_int64 (trodsF_last (by kernel_rfl) (by kernel_rfl) TR_int))))
theorem O_flurrylaw19_Start {H : Type} {enc : TypeId × Value → H} {w : World} {sp : Nat → Bool} {held : Bool} {fuel : Nat} {cs : Array Value} {x : DataW H × List MemPlace} (h : DataW.trod enc P w 0 sp held fuel T_flurrylaw19_Start cs.toList = some x) : ∃ a, cs = (Rdr.cells R_flurrylaw19_Start a).toArray ∧ Rdr.ok R_flurrylaw19_Start w.heap a := by
  obtain ⟨a, e, ok⟩ := TR_flurrylaw19_Start H enc w sp held fuel _ x h
  exact ⟨a, by apply Array.ext'; exact e, ok⟩
abbrev R_sl_uint8 := rBytes
theorem TR_sl_uint8 : Trods P T_sl_uint8 R_sl_uint8 := trods_bytes U_sl_uint8 U_uint8 (by kernel_rfl)
abbrev R_flurrylaw19_For := (Rdr.pair R_uint8 R_int)
theorem TR_flurrylaw19_For : Trods P T_flurrylaw19_For R_flurrylaw19_For := trods_struct U_flurrylaw19_For (by kernel_rfl) (trodsF_cons (by kernel_rfl) (by kernel_rfl) TR_uint8 (trodsF_last (by kernel_rfl) (by kernel_rfl) TR_int))
abbrev R_sl_flurrylaw19_For := (rSl R_flurrylaw19_For)
theorem TR_sl_flurrylaw19_For : Trods P T_sl_flurrylaw19_For R_sl_flurrylaw19_For := trods_sl TR_flurrylaw19_For U_sl_flurrylaw19_For (by kernel_rfl) (by decide)
abbrev R_flurrylaw19_Act := (Rdr.pair R_bool (Rdr.pair R_uint8 (Rdr.pair R_sl_uint8 R_sl_flurrylaw19_For)))
theorem TR_flurrylaw19_Act : Trods P T_flurrylaw19_Act R_flurrylaw19_Act := trods_struct U_flurrylaw19_Act (by kernel_rfl) (trodsF_cons (by kernel_rfl) (by kernel_rfl) TR_bool (trodsF_cons (by kernel_rfl) (by kernel_rfl) TR_uint8 (trodsF_cons (by kernel_rfl) (by kernel_rfl) TR_sl_uint8 (trodsF_last (by kernel_rfl) (by kernel_rfl) TR_sl_flurrylaw19_For))))
abbrev R_sl_flurrylaw19_Act := (rSl R_flurrylaw19_Act)
theorem TR_sl_flurrylaw19_Act : Trods P T_sl_flurrylaw19_Act R_sl_flurrylaw19_Act := trods_sl TR_flurrylaw19_Act U_sl_flurrylaw19_Act (by kernel_rfl) (by decide)
theorem O_sl_flurrylaw19_Act {H : Type} {enc : TypeId × Value → H} {w : World} {sp : Nat → Bool} {held : Bool} {fuel : Nat} {v : Value} {x : DataW H × List MemPlace} (h : DataW.trod enc P w 0 sp held fuel T_sl_flurrylaw19_Act [v] = some x) : ∃ l, Rdr.ok R_sl_flurrylaw19_Act w.heap ⟨v, l⟩ := by
  obtain ⟨⟨v', l⟩, e, ok⟩ := TR_sl_flurrylaw19_Act H enc w sp held fuel _ x h
  have ev : v = v' := (List.cons.inj e).1
  subst ev
  exact ⟨l, ok⟩
theorem UT_bytes : P.underlying T_sl_uint8 = some (.slice T_uint8) := U_sl_uint8
theorem ST_bytes : SlT P T_sl_uint8 T_uint8 1 1 := S_sl_uint8
theorem ZC_uint8 : zc P T_uint8 = #[.int .u8 0] := by kernel_rfl
end Go.Fx
set_option linter.unusedVariables false
set_option linter.unusedSimpArgs false
namespace Go.Fx
/-- So many bytes of a name, the others nothing. -/
def part (o : List UInt8) (i : Nat) : List UInt8 := o.take i ++ List.replicate (o.length - i) 0
theorem part_len (o : List UInt8) {i : Nat} (hi : i ≤ o.length) : (part o i).length = o.length := by simp [part]; omega
theorem part_set {o : List UInt8} {i : Nat} {b : UInt8} (hb : o[i]? = some b) : (part o i).set i b = part o (i + 1) := by
  have hi := (List.getElem?_eq_some_iff.1 hb).1
  have hl : (o.take i).length = i := by simp; omega
  unfold part
  rw [List.set_append_right _ _ (by omega), hl, Nat.sub_self, show o.length - i = (o.length - (i + 1)) + 1 by omega, List.replicate_succ, List.set_cons_zero, List.take_add_one, hb]
  simp
theorem part_zero (o : List UInt8) : part o 0 = List.replicate o.length 0 := by simp [part]
theorem part_all {o : List UInt8} : part o o.length = o := by simp [part]
section
variable {w0 w : World} {As : List Asn} {b s : Value} {l m : List UInt8}
theorem st_b {g i : Nat} {o : List UInt8} {t : TypeId} {u : UInt8} {K : World → Prop} (hs : Sep w0 w (blk g (bvs (part o i)).toArray t :: As)) (hu : o[i]? = some u)
    (h : ∀ w', Sep w0 w' (blk g (bvs (part o (i + 1))).toArray t :: As) → K w') : st1 (.pointer (some ⟨g, i, none⟩)) (bv u) w K := by
  have hi := (List.getElem?_eq_some_iff.1 hu).1
  refine st1_s hs (by simp [bvs, part_len o (Nat.le_of_lt hi)]; omega) rfl fun w' hs' => h w' ?_
  have e : (bvs (part o i)).toArray.setIfInBounds i (bv u) = (bvs (part o (i + 1))).toArray := by
    rw [← part_set hu]
    apply Array.ext'
    simp [bvs, List.map_set]
  rw [e] at hs'
  exact hs'
theorem ixa_w {g n : Nat} (k : IntKind) {i : Nat} (hi : i < n) (K : Value → Prop) : ixa n 1 (.pointer (some ⟨g, 0, none⟩)) (.int k (i : Int)) K = K (.pointer (some ⟨g, i, none⟩)) := by
  rw [ixa_mk _ _ _ _ _ _ _ (by omega) (by omega), Int.toNat_natCast, Nat.zero_add, Nat.mul_one]
theorem app1 {u : UInt8} {K : Value → World → Prop} (hs : Sep w0 w (ownB s l :: As)) (hl : l.length ≤ 1000000) (hk : ∀ v' w', Sep w0 w' (ownB v' (l ++ [u]) :: As) → K v' w') :
    efP P (Instr.buildSlice T_sl_uint8 1 #[(0, bv u)]) w fun t w => efP P (Builtin.append_ #[T_sl_uint8, T_sl_uint8] T_sl_uint8 #[s, t]) w K := by
  have hr : ∀ w : World, (Instr.buildSlice T_sl_uint8 1 #[(0, bv u)]).run P w = .ok (.slice (some ⟨w.heap.size, 0, none⟩) 1 1) (w.alloc (.cells (bvs [u]).toArray T_uint8)) := fun w => by kernel_rfl
  refine buildB_s (l := [u]) hs rfl (hr w) fun g w1 h1 => ?_
  exact appB_s S_sl_uint8 U_sl_uint8 (by simp) h1.p1 h1.rd (by simp; omega) fun v' w' h2 => hk v' w' h2.d1
theorem app0 {K : Value → World → Prop} (j : Int) (hj : j = 0 ∨ j = 128) (hs : Sep w0 w (ownB s l :: As)) (hl : l.length ≤ 1000000) (hk : ∀ v' w', Sep w0 w' (ownB v' (l ++ [if j = 0 then 0 else 128]) :: As) → K v' w') :
    efP P (Instr.buildSlice T_sl_uint8 1 #[(0, .int .u8 j)]) w fun t w => efP P (Builtin.append_ #[T_sl_uint8, T_sl_uint8] T_sl_uint8 #[s, t]) w K := by
  rcases hj with rfl | rfl
  · exact app1 (u := 0) hs hl hk
  · exact app1 (u := 128) hs hl hk
theorem bClone_spec (hb : RdB w.heap b l) (hl : l.length ≤ 140737488355328) : cal P f_bytes_Clone [b] w fun r w' => Sep w w' [ownB r l] := by
  refine s_bytes_Clone fun R hR => ?_
  unfold c_bytes_Clone
  obtain ⟨a, c, hv, hl', hh⟩ := id hb
  subst hv
  cases a with
  | none =>
    have h0 : l = [] := by
      rcases hh with h0 | ⟨_, _, _, _, _, h, _⟩
      · exact List.eq_nil_of_length_eq_zero (by omega)
      · cases h
    subst h0
    simp only [fx, Nat.reduceAdd, forall_const]
    exact hR _ _ (Sep.start w).nil
  | some a =>
    simp only [fx, Nat.reduceAdd, forall_const]
    have hb1 : ∀ w : World, (Instr.buildSlice T_sl_uint8 0 #[]).run P w = .ok (.slice (some ⟨w.heap.size, 0, none⟩) 0 0) (w.alloc (.cells (bvs []).toArray T_uint8)) := fun w => by kernel_rfl
    refine buildB_s (l := []) (Sep.start w) rfl (hb1 _) fun g w1 hs => ?_
    refine appB_s S_sl_uint8 U_sl_uint8 (by simp) hs (hs.rdB hb) (by simp; omega) fun v' w2 hs => ?_
    exact hR _ _ (by simpa using hs)
end
end Go.Fx
set_option linter.unusedVariables false
set_option linter.unusedSimpArgs false
namespace Go.Fx
/-! ### Some of the assertions, in an order -/
def pickL (L : List Asn) : List Nat → List Asn → List Asn
  | [], T => T
  | i :: is, T => match L[i]? with
    | some A => A :: pickL L is T
    | none => pickL L is T
theorem sub_perm {α : Type} : ∀ (X P : List α), X.Nodup → (∀ x ∈ X, x ∈ P) → ∃ rest, P.Perm (X ++ rest)
  | [], P, _, _ => ⟨P, .refl _⟩
  | x :: X, P, hn, hs => by
    obtain ⟨s, t, rfl⟩ := List.append_of_mem (hs x (by simp))
    have hn' := List.nodup_cons.1 hn
    obtain ⟨rest, hr⟩ := sub_perm X (s ++ t) hn'.2 fun y hy => by
      have := hs y (by simp [hy])
      simp only [List.mem_append, List.mem_cons] at this ⊢
      rcases this with h | h | h
      · exact .inl h
      · subst h; exact absurd hy hn'.1
      · exact .inr h
    exact ⟨rest, List.perm_middle.trans (hr.cons x)⟩
theorem pickL_eq (L : List Asn) (T : List Asn) : ∀ is : List Nat, pickL L is T = (is.filterMap fun i => L.zipIdx[i]?).map (·.1) ++ T
  | [] => rfl
  | i :: is => by
    rw [pickL, List.filterMap_cons]
    cases h : L[i]? with
    | none =>
      have : L.zipIdx[i]? = none := by simpa using h
      rw [this]
      exact pickL_eq L T is
    | some A =>
      have : L.zipIdx[i]? = some (A, i) := by rw [List.getElem?_zipIdx, h]; simp
      rw [this]
      simp only [List.map_cons, List.cons_append]
      rw [pickL_eq L T is]
theorem pick_nodup (L : List Asn) : ∀ is : List Nat, is.Nodup → (is.filterMap fun i => L.zipIdx[i]?).Nodup ∧ ∀ x ∈ (is.filterMap fun i => L.zipIdx[i]?), x.2 ∈ is
  | [], _ => ⟨by simp, by simp⟩
  | i :: is, h => by
    have h' := List.nodup_cons.1 h
    obtain ⟨h1, h2⟩ := pick_nodup L is h'.2
    rw [List.filterMap_cons]
    cases hi : L.zipIdx[i]? with
    | none => exact ⟨h1, fun x hx => by simp [h2 x hx]⟩
    | some x =>
      have hx : x.2 = i := by
        rw [List.getElem?_zipIdx] at hi
        cases hL : L[i]? with
        | none => simp [hL] at hi
        | some A => simp [hL] at hi; rw [← hi]
      refine ⟨List.nodup_cons.2 ⟨fun hm => h'.1 (hx ▸ h2 x hm), h1⟩, fun y hy => ?_⟩
      rcases List.mem_cons.1 hy with rfl | hy
      · simp [hx]
      · simp [h2 y hy]
theorem Sep.dropL {w0 w : World} : ∀ {As Bs : List Asn}, Sep w0 w (As ++ Bs) → Sep w0 w Bs
  | [], _, h => h
  | _ :: As, _, h => Sep.dropL (As := As) h.tail
/-- The assertions at these places of the first n, and all behind these n. -/
theorem Sep.pick {w0 w : World} {As : List Asn} (h : Sep w0 w As) (is : List Nat) (n : Nat) (hn : is.Nodup := by decide) : Sep w0 w (pickL (As.take n) is (As.drop n)) := by
  obtain ⟨h1, h2⟩ := pick_nodup (As.take n) is hn
  obtain ⟨rest, hr⟩ := sub_perm (is.filterMap fun i => (As.take n).zipIdx[i]?) (As.take n).zipIdx h1 fun x hx => by
    obtain ⟨i, _, hi⟩ := List.mem_filterMap.1 hx
    exact List.mem_of_getElem? hi
  rw [pickL_eq]
  have hp := hr.map (·.1)
  rw [List.map_append, List.zipIdx_map_fst] at hp
  have h3 : Sep w0 w ((rest.map (·.1)) ++ ((is.filterMap fun i => (As.take n).zipIdx[i]?).map (·.1) ++ As.drop n)) := by
    refine h.perm ?_
    have e := List.take_append_drop n As
    rw [← List.append_assoc]
    refine (List.Perm.of_eq e.symm).trans (List.Perm.append_right _ (hp.trans List.perm_append_comm))
  exact h3.dropL
/-! ### '[]byte("..")': new memory that is only read -/
def rdA (v : Value) (l : List UInt8) : Asn where
  on h F := ∃ g o c cur t fr, v = .slice (some ⟨g, o, none⟩) l.length c ∧ h[g]? = some (.cells cur t fr) ∧ (cur.toList.drop o).take l.length = bvs l ∧ l.length ≤ c ∧ F = [g]
  fr := fun ⟨g, o, c, cur, t, fr, hv, hg, hc, hle, hF⟩ hf hn => ⟨g, o, c, cur, t, fr, hv, hf.blk hg (hn g (by simp [hF])), hc, hle, hF⟩
  lt := fun ⟨g, o, c, cur, t, fr, hv, hg, hc, hle, hF⟩ k hk => by simp [hF] at hk; subst hk; exact lt_of_blk hg
theorem Sep.rda {w0 w : World} {As : List Asn} {v : Value} {l : List UInt8} (h : Sep w0 w (rdA v l :: As)) : RdB w.heap v l := by
  obtain ⟨F, g, o, c, cur, t, fr, rfl, hg, hc, hle, rfl⟩ := h.head
  exact ⟨_, c, rfl, by simp [bvs], .inr ⟨g, o, cur, t, fr, rfl, hg, by rw [Nat.mul_one]; exact hc⟩⟩
theorem lit_s {P : Program} {w0 w : World} {As : List Asn} {t E n : Nat} {s : Sem Value} {l : List UInt8} {K : Value → World → Prop} (hs : Sep w0 w As) (ht : P.underlying t = some (.slice E)) (he : P.underlying E = some (.int .u8)) (hn : n = l.length)
    (hr : s.run P w = .ok (.slice (some ⟨w.heap.size, 0, none⟩) n n) (w.alloc (.cells (bvs l).toArray E))) (h : ∀ g w', Sep w0 w' (rdA (.slice (some ⟨g, 0, none⟩) n n) l :: As) → K (.slice (some ⟨g, 0, none⟩) n n) w') :
    efP P s w fun x w => efP P (convert t t x) w K := by
  subst hn
  refine ⟨_, _, hr, _, _, Lib.run_convert_bytes_const w t E _ _ _ ht he, h _ _ (hs.new (fr_alloc w _) (B := rdA _ _) (F' := [w.heap.size]) ⟨_, 0, _, _, E, _, rfl, alloc_new w _, by rw [List.drop_zero]; exact List.take_of_length_le (by simp [bvs]), Nat.le_refl _, rfl⟩ (by simp))⟩
theorem At.rd {h : Heap} {g o c : Nat} {l : List UInt8} (ha : At h g o (bvs l)) : RdB h (.slice (some ⟨g, o, none⟩) l.length c) l := by
  obtain ⟨cur, t, fr, hg, hn, hc⟩ := ha
  refine ⟨_, c, rfl, by simp [bvs], .inr ⟨g, o, cur, t, fr, rfl, hg, ?_⟩⟩
  rw [Nat.mul_one]
  rw [bvs_length] at hc
  exact hc
/-- 'x[:]', x an array. -/
theorem sla_all (len size g o : Nat) (K : Value → Prop) : sla len size (.pointer (some ⟨g, o, none⟩)) none none K = K (.slice (some ⟨g, o, none⟩) len len) := by
  have e : (if len = 0 then (⟨g, o, none⟩ : Addr) else Addr.add ⟨g, o, none⟩ (0 * size)) = ⟨g, o, none⟩ := by
    split
    · rfl
    · rw [Nat.zero_mul, Addr_add_mk, Nat.add_zero]
  refine propext ⟨?_, fun hk => ⟨_, rfl, ?_⟩⟩
  · rintro ⟨a, ha, hk⟩
    cases ha
    simp only [bndO, e, Nat.sub_zero] at hk
    exact hk
  · simp only [bndO, e, Nat.sub_zero]
    exact hk
section
variable {w0 w : World} {As : List Asn} {g n v : Nat} {s ha hc : Value} {a b c : List UInt8}
theorem rdNil (z : World) : RdB z.heap (.slice none 0 0) [] := ⟨none, 0, rfl, rfl, .inl rfl⟩
theorem numberS (hn : n ≤ 8) (hv : v < 18446744073709551616) : cal P f_pack_number [.int .i64 n, .int .u64 v] w fun r w' => Sep w w' [ownB r (be n v)] := by
  refine s_pack_number fun R hR => ?_
  unfold c_pack_number
  refine mkB_s (Sep.start w) ST_bytes ZC_uint8 (by omega) fun g w1 hs => ?_
  simp only [fx, Nat.reduceAdd, forall_const]
  refine ⟨fun a w2 => ∃ i : Nat, i ≤ n ∧ a = .int .i64 i ∧ Sep w w2 [ownB (.slice (some ⟨g, 0, none⟩) n n) (List.replicate (n - i) 0 ++ be i v)], fun a _ => n - (RowKit.intOf a).toNat, ⟨0, by omega, rfl, by simpa [be] using hs⟩, ?_⟩
  rintro _ w2 ⟨i, hi, rfl, hs2⟩ -
  simp only [fx, Nat.reduceAdd, forall_const]
  rw [cnd_bool]
  refine ⟨fun h => ?_, fun h => ?_⟩
  · have hlt : i < n := by simpa using h
    simp (disch := omega) only [fx, Nat.reduceAdd, forall_const, wi64, sh_shr]
    have e1 : IntKind.u64.bits = 64 := rfl
    have e2 : (n : Int) - 1 - i = ((n - 1 - i : Nat) : Int) := by omega
    rw [e1, shr8 v i (by omega), bv_of _ (Int.natCast_nonneg _), Int.toNat_natCast, e2]
    refine stxB_s hs2 (by simp [be_length]; omega) _ fun w3 hs3 => ?_
    refine ⟨⟨i + 1, by omega, by simp, ?_⟩, by simp [RowKit.intOf]; omega⟩
    have e3 : (List.replicate (n - i) (0 : UInt8) ++ be i v).set (n - 1 - i) (UInt8.ofNat (v / 256 ^ i)) = List.replicate (n - (i + 1)) 0 ++ be (i + 1) v := by
      rw [show n - i = (n - (i + 1)) + 1 by omega, List.replicate_succ', List.append_assoc, List.set_append_right _ _ (by simp; omega), be_cons]
      congr 1
      rw [show n - 1 - i - (List.replicate (n - (i + 1)) (0 : UInt8)).length = 0 by simp; omega]
      rfl
    rw [← e3]
    exact hs3
  · have hlt : ¬ i < n := by simpa using h
    obtain rfl : i = n := by omega
    exact hR _ _ (by simpa using hs2)
abbrev pk (g : Nat) (s : Value) (n : Nat) : Asn := blk g (Rdr.cells Q_pack_Packer ((true, s, 0), (n : Int))).toArray T_pack_Packer
theorem worksS (hs : Sep w0 w (pk g s n :: As)) : cal P f_pack_Packer_works [.pointer (some ⟨g, 0, none⟩)] w fun r w' => r = .bool true ∧ w = w' := by
  refine s_pack_Packer_works fun R hR => ?_
  unfold c_pack_Packer_works
  simp only [fx, Nat.reduceAdd, forall_const, L_pack_Packer hs.blk, L_pack_Packer__kept hs.blk, L_pack_Packer__kept_made hs.blk, L_pack_Packer__kept_b hs.blk, L_pack_Packer__kept_err hs.blk, L_pack_Packer__limit hs.blk]
  exact hR _ _ ⟨rfl, rfl⟩
theorem putS (hs : Sep w0 w (pk g s n :: ownB s b :: As)) (hra : ∀ z, Sep w0 z As → RdB z.heap ha a) (hrc : ∀ z, Sep w0 z As → RdB z.heap hc c) (hn : n ≤ 8192) (hf : b.length + a.length + c.length ≤ n) :
    cal P f_pack_Packer_put [.pointer (some ⟨g, 0, none⟩), ha, hc] w fun v w' => v = .tuple #[] ∧ ∃ s', Sep w0 w' (pk g s' n :: ownB s' (b ++ a ++ c) :: As) := by
  refine s_pack_Packer_put fun R hR => ?_
  unfold c_pack_Packer_put
  refine cal_i (worksS hs) ?_
  rintro _ _ ⟨rfl, rfl⟩
  simp only [fx, Nat.reduceAdd, forall_const]
  refine drw_s hs fun w1 hs1 _ => ?_
  have hlb := (Sep.rd hs1.p1).len
  have hla := (hra _ hs1.tail.tail).len
  have hlc := (hrc _ hs1.tail.tail).len
  simp only [fx, Nat.reduceAdd, forall_const, L_pack_Packer hs1.blk, L_pack_Packer__kept hs1.blk, L_pack_Packer__kept_made hs1.blk, L_pack_Packer__kept_b hs1.blk, L_pack_Packer__kept_err hs1.blk, L_pack_Packer__limit hs1.blk, hlb, hla, hlc]
  rw [wi64 (x := (n : Int) - b.length) (by omega) (by omega), decide_eq_false (by omega)]
  simp only [fx, Nat.reduceAdd, forall_const]
  rw [wi64 (by omega) (by omega), decide_eq_false (by omega)]
  simp only [fx, Nat.reduceAdd, forall_const, L_pack_Packer hs1.blk, L_pack_Packer__kept hs1.blk, L_pack_Packer__kept_made hs1.blk, L_pack_Packer__kept_b hs1.blk, L_pack_Packer__kept_err hs1.blk, L_pack_Packer__limit hs1.blk]
  refine appB_s ST_bytes UT_bytes (by simp) hs1.p1 (hra _ hs1.tail.tail) (by omega) fun s1 w2 hs2 => ?_
  refine appB_s ST_bytes UT_bytes (by simp) hs2 (hrc _ hs2.tail.tail) (by simp; omega) fun s2 w3 hs3 => ?_
  refine St_pack_Packer__kept_b hs3.p1 (Sep.one hs3) fun w4 hs4 => ?_
  exact hR _ _ ⟨rfl, s2, hs4⟩
theorem NewS (n : Nat) (hn : n ≤ 8192) : cal P f_pack_New [.int .i64 n] w fun v w' => ∃ g, v = .pointer (some ⟨g, 0, none⟩) ∧ Sep w w' [pk g (.slice none 0 0) n, ownB (.slice none 0 0) []] := by
  refine s_pack_New fun R hR => ?_
  unfold c_pack_New
  rw [B_pack_Packer_1]
  refine bx_s (Sep.start w).nil fun g w1 hs => ?_
  simp only [fx, Nat.reduceAdd, forall_const]
  refine St_pack_Packer__kept_made hs fun w2 hs2 => ?_
  rw [decide_eq_false (by omega), decide_eq_false (by omega)]
  simp only [fx, Nat.reduceAdd, forall_const]
  exact hR _ _ ⟨g, rfl, hs2⟩
/-- What a call on a packer gives. -/
def PkQ (w0 : World) (As : List Asn) (g n : Nat) (b : List UInt8) (v : Value) (w' : World) : Prop := v = .tuple #[] ∧ ∃ s', Sep w0 w' (pk g s' n :: ownB s' b :: As)
section
variable (hs : Sep w0 w (pk g s n :: ownB s b :: As)) (hn : n ≤ 8192)
include hs hn
theorem putnumS {m : Nat} {K : World → Prop} (hrc : ∀ z, Sep w0 z As → RdB z.heap hc c) (hm : m ≤ 8) (hv : v < 18446744073709551616) (hf : b.length + m + c.length ≤ n) (h : ∀ s' w', Sep w0 w' (pk g s' n :: ownB s' (b ++ (be m v ++ c)) :: As) → K w') :
    cal P f_pack_number [.int .i64 m, .int .u64 v] w fun t w => cal P f_pack_Packer_put [.pointer (some ⟨g, 0, none⟩), t, hc] w fun _ w => K w := by
  refine cal_i (numberS hm hv) ?_
  rintro t w1 hs1
  replace hs1 := (hs.join hs1).q2
  refine cal_i (putS (As := ownB t (be m v) :: As) hs1 (fun z hz => Sep.rd hz) (fun z hz => hrc z hz.tail) hn (by rw [be_length]; omega)) ?_
  rintro _ w2 ⟨rfl, s', hs2⟩
  have := hs2.d2
  rw [List.append_assoc] at this
  exact h s' w2 this
theorem ShortS (hv : v < 65536) (hf : b.length + 2 ≤ n) : cal P f_pack_Packer_Short [.pointer (some ⟨g, 0, none⟩), .int .u16 v] w (PkQ w0 As g n (b ++ be 2 v)) := by
  refine s_pack_Packer_Short fun R hR => ?_
  unfold c_pack_Packer_Short
  simp (disch := omega) only [fx, Nat.reduceAdd, forall_const, wu64i]
  refine putnumS (m := 2) hs hn (c := []) (fun z _ => rdNil z) (by omega) (by omega) (by simpa using hf) fun s' w' h => ?_
  rw [List.append_nil] at h
  exact hR _ _ ⟨rfl, s', h⟩
theorem LongS (hv : v < 18446744073709551616) (hf : b.length + 8 ≤ n) : cal P f_pack_Packer_Long [.pointer (some ⟨g, 0, none⟩), .int .u64 v] w (PkQ w0 As g n (b ++ be 8 v)) := by
  refine s_pack_Packer_Long fun R hR => ?_
  unfold c_pack_Packer_Long
  refine putnumS (m := 8) hs hn (c := []) (fun z _ => rdNil z) (by omega) hv (by simpa using hf) fun s' w' h => ?_
  rw [List.append_nil] at h
  exact hR _ _ ⟨rfl, s', h⟩
theorem FixedS (hrc : ∀ z, Sep w0 z As → RdB z.heap hc c) (hf : b.length + c.length ≤ n) : cal P f_pack_Packer_Fixed [.pointer (some ⟨g, 0, none⟩), hc] w (PkQ w0 As g n (b ++ c)) := by
  refine s_pack_Packer_Fixed fun R hR => ?_
  unfold c_pack_Packer_Fixed
  refine cal_i (putS (a := []) hs (fun z _ => rdNil z) hrc hn (by simpa using hf)) ?_
  rintro _ w' ⟨rfl, s', h⟩
  rw [List.append_nil] at h
  exact hR _ _ ⟨rfl, s', h⟩
theorem BytesS (hrc : ∀ z, Sep w0 z As → RdB z.heap hc c) (hf : b.length + 4 + c.length ≤ n) : cal P f_pack_Packer_Bytes [.pointer (some ⟨g, 0, none⟩), hc] w (PkQ w0 As g n (b ++ (be 4 c.length ++ c))) := by
  refine s_pack_Packer_Bytes fun R hR => ?_
  unfold c_pack_Packer_Bytes
  simp (disch := omega) only [fx, Nat.reduceAdd, forall_const, (hrc _ hs.tail.tail).len, wu64i]
  exact putnumS (m := 4) hs hn hrc (by omega) (by omega) (by omega) fun s' w' h => hR _ _ ⟨rfl, s', h⟩
omit hn in
theorem OutS (hb : b.length ≤ 8192) : cal P f_pack_Packer_Out [.pointer (some ⟨g, 0, none⟩)] w fun v w' => ∃ r, v = .tuple #[r, .int .i64 0] ∧ Sep w0 w' (ownB r b :: pk g s n :: ownB s b :: As) := by
  refine s_pack_Packer_Out fun R hR => ?_
  unfold c_pack_Packer_Out
  have herr : cal P f_pack_Packer_Err [.pointer (some ⟨g, 0, none⟩)] w fun v w' => v = .int .i64 0 ∧ w = w' := by
    refine s_pack_Packer_Err fun R hR => ?_
    unfold c_pack_Packer_Err
    simp only [fx, Nat.reduceAdd, forall_const, L_pack_Packer hs.blk, L_pack_Packer__kept hs.blk, L_pack_Packer__kept_made hs.blk, L_pack_Packer__kept_b hs.blk, L_pack_Packer__kept_err hs.blk, L_pack_Packer__limit hs.blk]
    exact hR _ _ ⟨rfl, rfl⟩
  refine cal_i herr ?_
  rintro _ _ ⟨rfl, rfl⟩
  simp only [fx, Nat.reduceAdd, forall_const, L_pack_Packer hs.blk, L_pack_Packer__kept hs.blk, L_pack_Packer__kept_made hs.blk, L_pack_Packer__kept_b hs.blk, L_pack_Packer__kept_err hs.blk, L_pack_Packer__limit hs.blk, (Sep.rd hs.p1).len, show ((0 : Int) != 0) = false from rfl]
  refine mkB_s hs ST_bytes ZC_uint8 (by omega) fun g1 w1 hs1 => ?_
  simp only [fx, Nat.reduceAdd, forall_const, L_pack_Packer (Sep.p1 hs1).blk, L_pack_Packer__kept (Sep.p1 hs1).blk, L_pack_Packer__kept_made (Sep.p1 hs1).blk, L_pack_Packer__kept_b (Sep.p1 hs1).blk, L_pack_Packer__kept_err (Sep.p1 hs1).blk, L_pack_Packer__limit (Sep.p1 hs1).blk]
  refine cpyB_s ST_bytes hs1 (Sep.rd hs1.p2) fun w2 hs2 => ?_
  have e1 : b.take (List.replicate b.length (0 : UInt8)).length ++ (List.replicate b.length (0 : UInt8)).drop b.length = b := by simp
  rw [e1] at hs2
  exact hR _ _ ⟨_, rfl, hs2⟩
end
end
end Go.Fx
set_option linter.unusedVariables false
set_option linter.unusedSimpArgs false
namespace Go.Fx
section
variable {w0 w : World} {As : List Asn} {g n v : Nat} {s : Value} {a b c l : List UInt8} {e : Int}
end
end Go.Fx
set_option linter.unusedVariables false
set_option linter.unusedSimpArgs false
namespace Go.Fx
theorem Sep.onL {w0 w : World} {As : List Asn} {A : Asn} (h : Sep w0 w As) (hm : A ∈ As) : ∃ F, A.on w.heap F := by
  obtain ⟨s, t, rfl⟩ := List.append_of_mem hm
  exact h.dropL.head
theorem Sep.memB {w0 w : World} {As : List Asn} {g : Nat} {o : Obj} (h : Sep w0 w As) (hm : Asn.obj g o ∈ As) : w.heap[g]? = some o := by
  obtain ⟨F, hF, _⟩ := h.onL hm
  exact hF
/-- One more behind the last one. -/
theorem Sep.put {w0 w : World} {α : Type} {f : α → Asn} {Xs T : List Asn} {L : List α} {s : α} (h : Sep w0 w (f s :: (Xs ++ (L.map f ++ T)))) : Sep w0 w (Xs ++ ((L ++ [s]).map f ++ T)) := by
  refine h.perm ?_
  rw [List.map_append, List.append_assoc, ← List.append_assoc, ← List.append_assoc]
  exact List.perm_middle.symm
theorem Sep.dropR {w0 w : World} {As Bs : List Asn} (h : Sep w0 w (As ++ Bs)) : Sep w0 w As := (h.perm List.perm_append_comm).dropL
/-- One out of the middle. -/
theorem Sep.mid {w0 w : World} {As Bs : List Asn} {A : Asn} (h : Sep w0 w (As ++ A :: Bs)) : Sep w0 w (A :: (As ++ Bs)) := h.perm List.perm_middle
theorem rdS_ld {S : World → Prop} {p v : Value} {K : Value → Prop} (hS : ∀ u, S u → ∀ K : Value → Prop, K v → ld1 p u.heap K) (hk : K v) : rdS S (fun w => ld1 p w.heap) K := ⟨v, fun u hu => hS u hu _ rfl, hk⟩
theorem At.byte {h : Heap} {g o i : Nat} {a : List UInt8} (ha : At h g o (bvs a)) (hi : i < a.length) (K : Value → Prop) : Go.Fx.ld1 (.pointer (some ⟨g, o + i, none⟩)) h K = K (bv a[i]) := by
  have h1 : bvs a = bvs (a.take i) ++ [bv a[i]] ++ bvs (a.drop (i + 1)) := by
    have e : a = a.take i ++ a[i] :: a.drop (i + 1) := by rw [← List.drop_eq_getElem_cons, List.take_append_drop]
    unfold bvs
    conv => lhs; rw [e]
    rw [List.map_append, List.map_cons]
    simp only [List.append_assoc, List.singleton_append]
  rw [h1] at ha
  exact (ha.part (k := i) (by simp [bvs]; omega)).ld1 K
/-- 'l[j][i]', l a slice of names. -/
theorem Rows'.byte {w : World} {v : Value} {l : List (Vec 32)} {j i : Nat} {a : Vec 32} (hr : Rows' (rVec 32) w.heap v l) (hj : l[j]? = some a) (hi : i < 32) {K : Value → Prop} (h : K (bv (a.1[i]'(by rw [a.2]; exact hi)))) :
    ixs 32 v (.int .i64 (j : Int)) fun t => ixa 32 1 t (.int .i64 (i : Int)) fun p => Go.Fx.ld1 p w.heap K := by
  obtain ⟨g, o, ha, hx⟩ := hr.ix (by decide) hj
  have hx' : ∀ K, ixs 32 v (.int .i64 (j : Int)) K = K (.pointer (some ⟨g, o, none⟩)) := hx .i64
  rw [hx', ixa_mk _ _ _ _ _ _ _ (by omega) (by omega), Int.toNat_natCast, Nat.mul_one, At.byte (a := a.1) ha (by rw [a.2]; exact hi)]
  exact h
theorem rd_vec {w0 z : World} {As : List Asn} {g n c : Nat} {a : Vec n} {T : TypeId} (h : Sep w0 z (blk g (Rdr.cells (rVec n) a).toArray T :: As)) : RdB z.heap (.slice (some ⟨g, 0, none⟩) n c) a.1 := by
  have hat : At z.heap g 0 (bvs a.1) := At.blk (cs := Rdr.cells (rVec n) a) h.blk
  have := At.rd (c := c) hat
  rwa [a.2] at this
theorem RdB.mid {h : Heap} {av : Option Addr} {cv i j : Nat} {l : List UInt8} (hr : RdB h (.slice av l.length cv) l) (hc : l.length ≤ cv) (hi : i ≤ j) (hj : j ≤ l.length) : RdB h (.slice (if cv = i then av else av.map (·.add (i * 1))) (j - i) (cv - i)) ((l.drop i).take (j - i)) :=
  (hr.drop (k := i) (by omega) hc (cv - i)).take (k := j - i) (by omega) (cv - i)
theorem parts_drop {α β : Type} {s : Nat} {g : α → List β} (hg : ∀ a, (g a).length = s) : ∀ (l : List α) (k : Nat), (l.flatMap g).drop (k * s) = (l.drop k).flatMap g
  | [], k => by simp
  | b :: l, 0 => by simp
  | b :: l, k + 1 => by
    rw [List.drop_succ_cons, List.flatMap_cons, ← parts_drop hg l k, Nat.succ_mul, Nat.add_comm, ← List.drop_drop, List.drop_left' (hg b)]
theorem Rows'.take {α : Type} {q : Rdr α} {h : Heap} {a : Option Addr} {n c k : Nat} {l : List α} (hr : Rows' q h (.slice a n c) l) (hk : k ≤ l.length) (c' : Nat) : Rows' q h (.slice a k c') (l.take k) := by
  have hn : n = l.length := by obtain ⟨_, _, hv, _⟩ := hr; cases hv; rfl
  subst hn
  have := Cel.take (k := k) hr hk c'
  unfold Rows'
  rw [parts_take q.len] at this
  rw [List.length_take, Nat.min_eq_left hk]
  exact this
theorem Rows'.drop {α : Type} {q : Rdr α} {h : Heap} {a : Option Addr} {n c k : Nat} {l : List α} (hr : Rows' q h (.slice a n c) l) (hk : k ≤ l.length) (hc : l.length ≤ c) (c' : Nat) : Rows' q h (.slice (if c = k then a else a.map (·.add (k * q.size))) (n - k) c') (l.drop k) := by
  have hn : n = l.length := by obtain ⟨_, _, hv, _⟩ := hr; cases hv; rfl
  subst hn
  have := Cel.drop (k := k) hr hk hc c'
  unfold Rows'
  rw [parts_drop q.len] at this
  rw [List.length_drop]
  exact this
end Go.Fx
set_option linter.unusedVariables false
set_option linter.unusedSimpArgs false
namespace Go.Fx
abbrev W32 := BitVec 32
def wv (x : W32) : Value := .int .u32 (x.toNat : Int)
def wvs (l : List W32) : List Value := l.map wv
theorem ofInt_w (x : W32) : BitVec.ofInt 32 (x.toNat : Int) = x := by
  apply BitVec.eq_of_toNat_eq
  rw [BitVec.toNat_ofInt]
  have := x.isLt
  omega
theorem wu32w (x : W32) : IntKind.u32.wrap (x.toNat : Int) = (x.toNat : Int) := by
  have := x.isLt
  rw [wu32i (by omega) (by omega)]
section
variable (x y : W32) (K : Value → Prop)
theorem wv_add : bi .add (wv x) (wv y) K = K (wv (x + y)) := by
  unfold wv
  rw [bi_add, wu32, BitVec.toNat_add]
  have e : (((x.toNat + y.toNat) % 2 ^ 32 : Nat) : Int) = ((x.toNat : Int) + y.toNat) % 4294967296 := by omega
  rw [e]
theorem wv_xor : bi .xor (wv x) (wv y) K = K (wv (x ^^^ y)) := by
  unfold wv
  rw [bi_xor]
  show K (.int .u32 (IntKind.u32.wrap ((BitVec.ofInt 32 (x.toNat : Int) ^^^ BitVec.ofInt 32 (y.toNat : Int)).toNat : Int))) = _
  rw [ofInt_w, ofInt_w, wu32w]
theorem wv_and : bi .and (wv x) (wv y) K = K (wv (x &&& y)) := by
  unfold wv
  rw [bi_and]
  show K (.int .u32 (IntKind.u32.wrap ((BitVec.ofInt 32 (x.toNat : Int) &&& BitVec.ofInt 32 (y.toNat : Int)).toNat : Int))) = _
  rw [ofInt_w, ofInt_w, wu32w]
theorem wv_or : bi .or (wv x) (wv y) K = K (wv (x ||| y)) := by
  unfold wv
  rw [bi_or]
  show K (.int .u32 (IntKind.u32.wrap ((BitVec.ofInt 32 (x.toNat : Int) ||| BitVec.ofInt 32 (y.toNat : Int)).toNat : Int))) = _
  rw [ofInt_w, ofInt_w, wu32w]
theorem wv_shr (k : IntKind) {n : Nat} (hn : n ≤ 32) : sh .shr (wv x) (.int k (n : Int)) K = K (wv (x >>> n)) := by
  unfold wv
  rw [sh_shr _ _ _ _ _ (by omega)]
  have h1 : min ((n : Int)).toNat IntKind.u32.bits = n := by show min n 32 = n; omega
  rw [h1, BitVec.toNat_ushiftRight, Nat.shiftRight_eq_div_pow]
  have h2 : ((2 : Int) ^ n) = ((2 ^ n : Nat) : Int) := by simp
  rw [h2, Int.ofNat_fdiv]
theorem wv_shl (k : IntKind) {n : Nat} (hn : n ≤ 32) : sh .shl (wv x) (.int k (n : Int)) K = K (wv (x <<< n)) := by
  unfold wv
  rw [sh_shl _ _ _ _ _ (by omega)]
  have h1 : min ((n : Int)).toNat IntKind.u32.bits = n := by show min n 32 = n; omega
  rw [h1, wu32, BitVec.toNat_shiftLeft, Nat.shiftLeft_eq, Int.natCast_emod, Int.natCast_mul, Int.natCast_pow]
  rfl
theorem wv_not {w : World} {P : Program} : rdP P (Op.unary .xor (wv x)) w K = K (wv (~~~x)) := by
  refine rdP_eq ?_ K
  have e : BitVec.ofInt 32 (x.toNat : Int) = x := ofInt_w x
  have h : (BitVec.ofInt 32 4294967295 ^^^ BitVec.ofInt 32 (x.toNat : Int)) = ~~~x := by
    rw [e, show BitVec.ofInt 32 4294967295 = BitVec.allOnes 32 from rfl, BitVec.allOnes_xor]
  have hr : (Op.unary .xor (wv x)).run P w = .ok (.int .u32 (IntKind.u32.wrap ((BitVec.ofInt 32 4294967295 ^^^ BitVec.ofInt 32 (x.toNat : Int)).toNat : Int))) w := rfl
  rw [hr, h, wu32w]
  rfl
theorem wv_b (b : UInt8) : cvi .u32 (bv b) K = K (wv (BitVec.ofNat 32 b.toNat)) := by
  unfold wv bv
  have := b.toNat_lt
  rw [cvi_int, wu32i (by omega) (by omega), BitVec.toNat_ofNat, Nat.mod_eq_of_lt (by omega)]
theorem w_b : cvi .u8 (wv x) K = K (bv (UInt8.ofNat x.toNat)) := by
  unfold wv
  rw [cvi_int, bv_of _ (by omega), Int.toNat_natCast]
end
end Go.Fx
set_option linter.unusedVariables false
set_option linter.unusedSimpArgs false
namespace Go.Fx
def rotr (x : W32) (n : Nat) : W32 := x <<< (32 - n) ||| x >>> n
def word4 (a b c d : UInt8) : W32 := BitVec.ofNat 32 (((a.toNat * 256 + b.toNat) * 256 + c.toNat) * 256 + d.toNat)
def wd (b : List UInt8) (t : Nat) : W32 := word4 (b.getD (4 * t) 0) (b.getD (4 * t + 1) 0) (b.getD (4 * t + 2) 0) (b.getD (4 * t + 3) 0)
def bw (b : UInt8) : W32 := BitVec.ofNat 32 b.toNat
theorem or_lt {a b n : Nat} (hb : b < 2 ^ n) : a * 2 ^ n ||| b = a * 2 ^ n + b := by
  rw [Nat.mul_comm, ← Nat.two_pow_add_eq_or_of_lt hb]
theorem bw_nat (b : UInt8) : (bw b).toNat = b.toNat := by
  have := b.toNat_lt
  unfold bw
  rw [BitVec.toNat_ofNat, Nat.mod_eq_of_lt (by omega)]
theorem word4_or (a b c d : UInt8) : bw a <<< 24 ||| bw b <<< 16 ||| bw c <<< 8 ||| bw d = word4 a b c d := by
  have ha := a.toNat_lt; have hb := b.toNat_lt; have hc := c.toNat_lt; have hd := d.toNat_lt
  apply BitVec.eq_of_toNat_eq
  unfold word4
  simp only [BitVec.toNat_or, BitVec.toNat_shiftLeft, bw_nat, Nat.shiftLeft_eq, BitVec.toNat_ofNat]
  rw [Nat.mod_eq_of_lt (show a.toNat * 2 ^ 24 < 2 ^ 32 by omega), Nat.mod_eq_of_lt (show b.toNat * 2 ^ 16 < 2 ^ 32 by omega), Nat.mod_eq_of_lt (show c.toNat * 2 ^ 8 < 2 ^ 32 by omega), Nat.mod_eq_of_lt (show ((a.toNat * 256 + b.toNat) * 256 + c.toNat) * 256 + d.toNat < 2 ^ 32 by omega)]
  rw [or_lt (show b.toNat * 2 ^ 16 < 2 ^ 24 by omega)]
  rw [show a.toNat * 2 ^ 24 + b.toNat * 2 ^ 16 = (a.toNat * 256 + b.toNat) * 2 ^ 16 by omega, or_lt (show c.toNat * 2 ^ 8 < 2 ^ 16 by omega)]
  rw [show (a.toNat * 256 + b.toNat) * 2 ^ 16 + c.toNat * 2 ^ 8 = ((a.toNat * 256 + b.toNat) * 256 + c.toNat) * 2 ^ 8 by omega, or_lt (show d.toNat < 2 ^ 8 by omega)]
def sg0 (x : W32) : W32 := rotr x 7 ^^^ rotr x 18 ^^^ x >>> 3
def sg1 (y : W32) : W32 := rotr y 17 ^^^ rotr y 19 ^^^ y >>> 10
def nextW (b : List UInt8) (w : List W32) (t : Nat) : W32 := if t < 16 then wd b t else sg1 (w.getD (t - 2) 0) + w.getD (t - 7) 0 + sg0 (w.getD (t - 15) 0) + w.getD (t - 16) 0
def sch (b : List UInt8) : Nat → List W32
  | 0 => List.replicate 64 0
  | t + 1 => (sch b t).set t (nextW b (sch b t) t)
theorem sch_len (b : List UInt8) : ∀ t, (sch b t).length = 64
  | 0 => List.length_replicate
  | t + 1 => by rw [sch, List.length_set, sch_len b t]
def cubesL : List W32 := [0x428a2f98, 0x71374491, 0xb5c0fbcf, 0xe9b5dba5, 0x3956c25b, 0x59f111f1, 0x923f82a4, 0xab1c5ed5, 0xd807aa98, 0x12835b01, 0x243185be, 0x550c7dc3, 0x72be5d74, 0x80deb1fe, 0x9bdc06a7, 0xc19bf174, 0xe49b69c1, 0xefbe4786, 0x0fc19dc6, 0x240ca1cc, 0x2de92c6f, 0x4a7484aa, 0x5cb0a9dc, 0x76f988da, 0x983e5152, 0xa831c66d, 0xb00327c8, 0xbf597fc7, 0xc6e00bf3, 0xd5a79147, 0x06ca6351, 0x14292967, 0x27b70a85, 0x2e1b2138, 0x4d2c6dfc, 0x53380d13, 0x650a7354, 0x766a0abb, 0x81c2c92e, 0x92722c85, 0xa2bfe8a1, 0xa81a664b, 0xc24b8b70, 0xc76c51a3, 0xd192e819, 0xd6990624, 0xf40e3585, 0x106aa070, 0x19a4c116, 0x1e376c08, 0x2748774c, 0x34b0bcb5, 0x391c0cb3, 0x4ed8aa4a, 0x5b9cca4f, 0x682e6ff3, 0x748f82ee, 0x78a5636f, 0x84c87814, 0x8cc70208, 0x90befffa, 0xa4506ceb, 0xbef9a3f7, 0xc67178f2]
def firstL : List W32 := [0x6a09e667, 0xbb67ae85, 0x3c6ef372, 0xa54ff53a, 0x510e527f, 0x9b05688c, 0x1f83d9ab, 0x5be0cd19]
def t1M (k w e v5 v6 v7 : W32) : W32 := v7 + (rotr e 6 ^^^ rotr e 11 ^^^ rotr e 25) + ((e &&& v5) ^^^ (~~~e &&& v6)) + k + w
def t2M (a v1 v2 : W32) : W32 := (rotr a 2 ^^^ rotr a 13 ^^^ rotr a 22) + ((a &&& v1) ^^^ (a &&& v2) ^^^ (v1 &&& v2))
def rnd (k w : W32) (v : List W32) : List W32 :=
  let t1 := t1M k w (v.getD 4 0) (v.getD 5 0) (v.getD 6 0) (v.getD 7 0)
  [t1 + t2M (v.getD 0 0) (v.getD 1 0) (v.getD 2 0), v.getD 0 0, v.getD 1 0, v.getD 2 0, v.getD 3 0 + t1, v.getD 4 0, v.getD 5 0, v.getD 6 0]
def rns (b : List UInt8) (h : List W32) : Nat → List W32
  | 0 => h
  | t + 1 => rnd (cubesL.getD t 0) ((sch b 64).getD t 0) (rns b h t)
theorem rns_len (b : List UInt8) {h : List W32} (hh : h.length = 8) : ∀ t, (rns b h t).length = 8
  | 0 => hh
  | t + 1 => rfl
def mixM (h : List W32) (b : List UInt8) : List W32 := List.zipWith (· + ·) h (rns b h 64)
theorem mixM_len (b : List UInt8) {h : List W32} (hh : h.length = 8) : (mixM h b).length = 8 := by
  unfold mixM
  rw [List.length_zipWith, rns_len b hh, hh]
  rfl
def foldM (h : List W32) (l : List UInt8) : List W32 := if 64 ≤ l.length then foldM (mixM h (l.take 64)) (l.drop 64) else h
  termination_by l.length
  decreasing_by simp; omega
theorem foldM_step {h : List W32} {l : List UInt8} (hl : 64 ≤ l.length) : foldM h l = foldM (mixM h (l.take 64)) (l.drop 64) := by rw [foldM, if_pos hl]
theorem foldM_end {h : List W32} {l : List UInt8} (hl : ¬ 64 ≤ l.length) : foldM h l = h := by rw [foldM, if_neg hl]
theorem foldM_len {l : List UInt8} : ∀ {h : List W32}, h.length = 8 → (foldM h l).length = 8 := by
  induction hn : l.length using Nat.strongRecOn generalizing l with
  | ind n ih =>
    intro h hh
    by_cases hl : 64 ≤ l.length
    · rw [foldM_step hl]
      exact ih _ (by simp; omega) rfl (mixM_len _ hh)
    · rw [foldM_end hl]; exact hh
/-- Whole chunks first. -/
theorem foldM_app {a b : List UInt8} (ha : a.length % 64 = 0) : ∀ {h : List W32}, foldM h (a ++ b) = foldM (foldM h a) b := by
  induction hn : a.length using Nat.strongRecOn generalizing a with
  | ind n ih =>
    intro h
    by_cases hl : 64 ≤ a.length
    · rw [foldM_step hl, foldM_step (by rw [List.length_append]; omega), List.take_append_of_le_length hl, List.drop_append_of_le_length hl]
      exact ih _ (by simp; omega) (by simp; omega) rfl
    · have : a = [] := List.eq_nil_of_length_eq_zero (by omega)
      subst this
      rw [foldM_end hl, List.nil_append]
def zer (m : Nat) : Nat := (120 - m % 64) % 64
theorem zer_lt {m j : Nat} (h : j < zer m) : (m + j) % 64 ≠ 56 := by unfold zer at h; omega
theorem zer_eq (m : Nat) : (m + zer m) % 64 = 56 := by unfold zer; omega
theorem zer_le (m : Nat) : zer m < 64 := by unfold zer; omega
def padT (r : List UInt8) (n : Nat) : List UInt8 := r ++ [128] ++ List.replicate (zer (r.length + 1)) 0 ++ be 8 (n * 8 % 18446744073709551616)
theorem padT_len (r : List UInt8) (n : Nat) : (padT r n).length % 64 = 0 := by
  unfold padT
  simp only [List.length_append, List.length_replicate, List.length_singleton, be_length]
  have := zer_eq (r.length + 1)
  omega
theorem padT_app (a r : List UInt8) (n : Nat) (ha : a.length % 64 = 0) : padT (a ++ r) n = a ++ padT r n := by
  unfold padT
  have : zer ((a ++ r).length + 1) = zer (r.length + 1) := by unfold zer; rw [List.length_append]; omega
  rw [this]
  simp
def shaL (l : List UInt8) : List W32 := foldM firstL (padT l l.length)
theorem shaL_len (l : List UInt8) : (shaL l).length = 8 := foldM_len rfl
def wOut (x : W32) : List UInt8 := [UInt8.ofNat (x >>> 24).toNat, UInt8.ofNat (x >>> 16).toNat, UInt8.ofNat (x >>> 8).toNat, UInt8.ofNat x.toNat]
theorem wOut_len (h : List W32) : (h.flatMap wOut).length = 4 * h.length := by
  induction h with
  | nil => rfl
  | cons x h ih => rw [List.flatMap_cons, List.length_append, ih]; simp [wOut]; omega
def shaM (l : List UInt8) : Vec 32 := ⟨(shaL l).flatMap wOut, by rw [wOut_len, shaL_len]⟩
end Go.Fx
set_option linter.unusedVariables false
set_option linter.unusedSimpArgs false
namespace Go.Fx
abbrev wa (g : Nat) (l : List W32) (T : TypeId) : Asn := blk g (wvs l).toArray T
theorem wvs_get {l : List W32} {i : Nat} (hi : i < l.length) : (wvs l)[i]? = some (wv (l.getD i 0)) := by
  simp [wvs, List.getD_eq_getElem?_getD, List.getElem?_eq_getElem hi]
theorem wvs_one (l : List W32) : ∀ u ∈ wvs l, u.oneCell' = true := by
  intro u hu
  obtain ⟨x, _, rfl⟩ := List.mem_map.1 hu
  rfl
theorem shl_l (x : W32) (j : IntKind) (m : Int) (h0 : 0 ≤ m) (h1 : m ≤ 32) (K : Value → Prop) : sh .shl (wv x) (.int j m) K = K (wv (x <<< m.toNat)) := by
  obtain ⟨n, rfl⟩ := Int.eq_ofNat_of_zero_le h0
  exact wv_shl x K j (by omega)
theorem shr_l (x : W32) (j : IntKind) (m : Int) (h0 : 0 ≤ m) (h1 : m ≤ 32) (K : Value → Prop) : sh .shr (wv x) (.int j m) K = K (wv (x >>> m.toNat)) := by
  obtain ⟨n, rfl⟩ := Int.eq_ofNat_of_zero_le h0
  exact wv_shr x K j (by omega)
section
variable {w0 w : World} {g : Nat} {l : List W32} {t : TypeId} {fr : Nat × Nat} {h : Heap} {As : List Asn}
theorem ld_w (hg : h[g]? = some (.cells (wvs l).toArray t fr)) {i : Nat} (hi : i < l.length) (K : Value → Prop) : ld1 (.pointer (some ⟨g, i, none⟩)) h K = K (wv (l.getD i 0)) := by
  rw [ld1_eq hg, List.getElem?_toArray, wvs_get hi]
  exact ex_some _ K
theorem ldN_w (hg : h[g]? = some (.cells (wvs l).toArray t fr)) {n : Nat} (hn : l.length = n) (K : Value → Prop) : ldN n (.pointer (some ⟨g, 0, none⟩)) h K = K (.agg (wvs l).toArray) := by
  have hl : (wvs l).length = n := by simp [wvs, hn]
  rw [ldN_eq hg]
  have e : (wvs l).toArray.extract 0 (0 + n) = (wvs l).toArray := by
    apply Array.ext'
    simp [← hl]
  rw [e]
  exact propext ⟨fun h => h.2, fun h => ⟨by simp [hl], h⟩⟩
theorem st_w {K : World → Prop} (hs : Sep w0 w (wa g l t :: As)) {i : Nat} (hi : i < l.length) (x : W32) (h : ∀ w', Sep w0 w' (wa g (l.set i x) t :: As) → K w') : st1 (.pointer (some ⟨g, i, none⟩)) (wv x) w K := by
  refine st1_s hs (by simpa [wvs] using hi) rfl fun w' hs' => h w' ?_
  have e : (wvs l).toArray.setIfInBounds i (wv x) = (wvs (l.set i x)).toArray := by
    apply Array.ext'
    simp [wvs, List.map_set]
  rw [e] at hs'
  exact hs'
theorem stN_w {K : World → Prop} {n : Nat} {l' : List W32} (hs : Sep w0 w (wa g l t :: As)) (hl : l.length = n) (hl' : l'.length = n) (h : ∀ w', Sep w0 w' (wa g l' t :: As) → K w') :
    stN n (.pointer (some ⟨g, 0, none⟩)) (.agg (wvs l').toArray) w K := by
  refine stN_s hs (by simp [wvs, hl']) (by simp [wvs, hl]) (by simpa using wvs_one l') fun w' hs' => h w' ?_
  have e : splice (wvs l).toArray 0 (wvs l').toArray.toList = (wvs l').toArray := by
    apply Array.ext'
    simp [splice, wvs, hl', ← hl]
  rw [e] at hs'
  exact hs'
theorem ixa_l {n : Nat} (k : IntKind) (i : Int) (h0 : 0 ≤ i) (hi : i < n) (K : Value → Prop) : ixa n 1 (.pointer (some ⟨g, 0, none⟩)) (.int k i) K = K (.pointer (some ⟨g, i.toNat, none⟩)) := by
  rw [ixa_mk _ _ _ _ _ _ _ h0 hi, Nat.zero_add, Nat.mul_one]
theorem ixv_w {n i : Nat} (k : IntKind) (hl : l.length = n) (hi : i < n) (K : Value → Prop) : ixv n 1 false (.agg (wvs l).toArray) (.int k (i : Int)) K = K (wv (l.getD i 0)) := by
  refine propext ⟨fun ⟨cs, k', j, h1, h2, h3, h4, h5⟩ => ?_, fun h => ⟨_, _, _, rfl, rfl, by omega, by omega, ?_⟩⟩
  · cases h1; cases h2
    obtain ⟨v, hv, hk⟩ := (show ∃ v, _ ∧ _ from h5)
    rw [Int.toNat_natCast, Nat.mul_one, List.getElem?_toArray, wvs_get (by omega)] at hv
    cases hv
    exact hk
  · show ∃ v, _ ∧ _
    exact ⟨_, by rw [Int.toNat_natCast, Nat.mul_one, List.getElem?_toArray, wvs_get (by omega)], h⟩
theorem A_a64 (w : World) : (Instr.alloc T_a64_uint32 true (.tuple #[])).run P w = .ok (.pointer (some ⟨w.heap.size, 0, none⟩)) (w.alloc (.cells (wvs (List.replicate 64 0)).toArray T_a64_uint32)) := by kernel_rfl
theorem A_a8 (w : World) : (Instr.alloc T_a8_uint32 true (.tuple #[])).run P w = .ok (.pointer (some ⟨w.heap.size, 0, none⟩)) (w.alloc (.cells (wvs (List.replicate 8 0)).toArray T_a8_uint32)) := by kernel_rfl
theorem Rot_spec {x : W32} (m : Int) (n : Nat) (hn : n ≤ 32) (hk : IntKind.u64.wrap ((BitVec.ofInt IntKind.u64.bits (IntKind.u64.wrap m) &&& BitVec.ofInt IntKind.u64.bits 31).toNat : Int) = ((32 - n : Nat) : Int)) :
    cal P f_math_bits_RotateLeft32 [wv x, .int .i64 m] w fun r w' => r = wv (rotr x n) ∧ w = w' := by
  refine s_math_bits_RotateLeft32 fun R hR => ?_
  unfold c_math_bits_RotateLeft32
  rw [cvi_int, bi_and, hk, wv_shl x _ .u64 (by omega), bi_sub]
  have e : IntKind.u64.wrap (32 - ((32 - n : Nat) : Int)) = (n : Int) := by rw [wu64i (by omega) (by omega)]; omega
  rw [e, wv_shr x _ .u64 hn, wv_or]
  exact hR _ _ ⟨rfl, rfl⟩
end
end Go.Fx
set_option linter.unusedVariables false
set_option linter.unusedSimpArgs false
namespace Go.Fx
section
variable {w0 w : World} {b : Value} {l : List UInt8}
theorem getD_eq {l : List UInt8} {i : Nat} (h : i < l.length) : l[i] = l.getD i 0 := by simp [List.getD_eq_getElem?_getD, List.getElem?_eq_getElem h]
theorem schedule_spec (hb : RdB w.heap b l) (hl : l.length = 64) : cal P f_sha_schedule [b] w fun r w' => r = .agg (wvs (sch l 64)).toArray ∧ Fr [] w w' := by
  refine s_sha_schedule fun R hR => ?_
  unfold c_sha_schedule
  refine alloc_s (Sep.start w) (A_a64 w) fun g2 w2 hs => ?_
  refine alloc_s hs (A_a64 w2) fun g3 w3 hs => ?_
  refine ⟨fun a w' => ∃ t : Nat, a = .int .i64 t ∧ t ≤ 64 ∧ Sep w w' [wa g3 (sch l t) T_a64_uint32, wa g2 (List.replicate 64 0) T_a64_uint32], fun z _ => (64 - RowKit.intOf z).toNat, ⟨0, rfl, by omega, hs⟩, ?_⟩
  rintro _ w4 ⟨t, rfl, ht, hs4⟩ -
  simp only [fx, Nat.reduceAdd, forall_const]
  have hlen := sch_len l t
  rw [cnd_bool]
  refine ⟨fun h => ?_, fun h => ?_⟩
  · have h64 : t < 64 := by simp at h; omega
    refine ⟨fun w' => Sep w w' [wa g3 (sch l (t + 1)) T_a64_uint32, wa g2 (List.replicate 64 0) T_a64_uint32], ?_, ?_⟩
    · change cnd _ _ _
      rw [cnd_bool]
      refine ⟨fun h => ?_, fun h => ?_⟩
      · have h16 : t < 16 := by simp at h; omega
        refine drH_s hs4 fun w5 hs5 _ => ?_
        have hb5 := hs5.rdB hb
        have e0 : IntKind.i64.wrap (4 * (t : Int)) = ((4 * t : Nat) : Int) := by rw [wi64 (by omega) (by omega)]; omega
        have e1 : IntKind.i64.wrap (((4 * t : Nat) : Int) + 1) = ((4 * t + 1 : Nat) : Int) := by rw [wi64 (by omega) (by omega)]; omega
        have e2 : IntKind.i64.wrap (((4 * t : Nat) : Int) + 2) = ((4 * t + 2 : Nat) : Int) := by rw [wi64 (by omega) (by omega)]; omega
        have e3 : IntKind.i64.wrap (((4 * t : Nat) : Int) + 3) = ((4 * t + 3 : Nat) : Int) := by rw [wi64 (by omega) (by omega)]; omega
        simp only [rdS_ld1, e0, e1, e2, e3]
        refine ldxB hb5 (by omega) ?_
        rw [wv_b, shl_l _ .u64 24 (by decide) (by decide)]
        refine ldxB hb5 (by omega) ?_
        rw [wv_b, shl_l _ .u64 16 (by decide) (by decide), wv_or]
        refine ldxB hb5 (by omega) ?_
        rw [wv_b, shl_l _ .u64 8 (by decide) (by decide), wv_or]
        refine ldxB hb5 (by omega) ?_
        rw [wv_b, wv_or, ixa_w .i64 h64]
        refine efC_st1 (st_w hs5 (by omega) _ fun w6 hs6 => ?_)
        rw [sch, nextW, if_pos h16, wd, ← word4_or, ← getD_eq (by omega), ← getD_eq (by omega), ← getD_eq (by omega), ← getD_eq (by omega)]
        exact hs6
      · have h16 : ¬ t < 16 := by simp at h; omega
        refine drw_s hs4 fun w5 hs5 _ => ?_
        have e15 : IntKind.i64.wrap ((t : Int) - 15) = ((t - 15 : Nat) : Int) := by rw [wi64 (by omega) (by omega)]; omega
        have e2 : IntKind.i64.wrap ((t : Int) - 2) = ((t - 2 : Nat) : Int) := by rw [wi64 (by omega) (by omega)]; omega
        have e7 : IntKind.i64.wrap ((t : Int) - 7) = ((t - 7 : Nat) : Int) := by rw [wi64 (by omega) (by omega)]; omega
        have e16 : IntKind.i64.wrap ((t : Int) - 16) = ((t - 16 : Nat) : Int) := by rw [wi64 (by omega) (by omega)]; omega
        rw [e15, ixa_w .i64 (by omega), ld_w hs5.blk (by omega), e2, ixa_w .i64 (by omega), ld_w hs5.blk (by omega)]
        refine cal_i (Rot_spec (-7) 7 (by decide) (by decide)) ?_
        rintro _ _ ⟨rfl, rfl⟩
        refine cal_i (Rot_spec (-18) 18 (by decide) (by decide)) ?_
        rintro _ _ ⟨rfl, rfl⟩
        rw [wv_xor, shr_l _ .u64 3 (by decide) (by decide), wv_xor]
        refine cal_i (Rot_spec (-17) 17 (by decide) (by decide)) ?_
        rintro _ _ ⟨rfl, rfl⟩
        refine cal_i (Rot_spec (-19) 19 (by decide) (by decide)) ?_
        rintro _ _ ⟨rfl, rfl⟩
        rw [wv_xor, shr_l _ .u64 10 (by decide) (by decide), wv_xor]
        refine drH_s hs5 fun w6 hs6 _ => ?_
        simp only [rdS_ld1, e7, e16]
        rw [ixa_w .i64 (by omega), ld_w hs6.blk (by omega), wv_add, wv_add, ixa_w .i64 (by omega), ld_w hs6.blk (by omega), wv_add, ixa_w .i64 h64]
        refine efC_st1 (st_w hs6 (by omega) _ fun w7 hs7 => ?_)
        rw [sch, nextW, if_neg h16]
        exact hs7
    · intro w5 hs5 _
      rw [wi64 (by omega) (by omega)]
      exact ⟨⟨t + 1, by simp, by omega, hs5⟩, by simp [RowKit.intOf]; omega⟩
  · have h64 : t = 64 := by simp at h; omega
    subst h64
    rw [ldN_w hs4.blk hlen]
    refine stN_w hs4.p1 (by simp) hlen fun w5 hs5 => ?_
    rw [ldN_w hs5.blk hlen]
    exact hR _ _ ⟨rfl, hs5.fr0⟩
end
end Go.Fx
set_option linter.unusedVariables false
set_option linter.unusedSimpArgs false
namespace Go.Fx
/-- The words that are added stand in the program's variable. -/
def Cub (w : World) : Prop := ∃ t fr, w.heap[0]? = some (.cells (wvs cubesL).toArray t fr)
theorem Cub.fr {w w' : World} (h : Cub w) (hf : Fr [] w w') : Cub w' := by
  obtain ⟨t, fr, h⟩ := h
  exact ⟨t, fr, hf.blk h (by simp)⟩
section
variable {w0 w : World} {b : Value} {l : List UInt8} {h : List W32}
theorem B_a8 (a0 a1 a2 a3 a4 a5 a6 a7 : W32) (K : Value → Prop) : rdP P (Instr.build T_a8_uint32 #[(0, wv a0), (1, wv a1), (2, wv a2), (3, wv a3), (4, wv a4), (5, wv a5), (6, wv a6), (7, wv a7)]) w K = K (.agg (wvs [a0, a1, a2, a3, a4, a5, a6, a7]).toArray) := rdP_eq (by kernel_rfl) K
def hz (h v : List W32) (i : Nat) : List W32 := (List.zipWith (· + ·) h v).take i ++ h.drop i
theorem hz_zero (h v : List W32) : hz h v 0 = h := by simp [hz]
theorem hz_len {h v : List W32} (hh : h.length = 8) (hv : v.length = 8) {i : Nat} (hi : i ≤ 8) : (hz h v i).length = 8 := by simp [hz, hh, hv]; omega
theorem hz_get {h v : List W32} (hh : h.length = 8) (hv : v.length = 8) {i : Nat} (hi : i < 8) : (hz h v i).getD i 0 = h.getD i 0 := by
  have hl : ((List.zipWith (· + ·) h v).take i).length = i := by simp [hh, hv]; omega
  rw [List.getD_eq_getElem?_getD, hz, List.getElem?_append_right (by omega), hl, Nat.sub_self, List.getElem?_drop, Nat.add_zero, List.getD_eq_getElem?_getD]
theorem hz_step {h v : List W32} (hh : h.length = 8) (hv : v.length = 8) {i : Nat} (hi : i < 8) : (hz h v i).set i (h.getD i 0 + v.getD i 0) = hz h v (i + 1) := by
  have hl : ((List.zipWith (· + ·) h v).take i).length = i := by simp [hh, hv]; omega
  have hzl : (List.zipWith (· + ·) h v).length = 8 := by simp [hh, hv]
  unfold hz
  rw [List.set_append_right _ _ (by omega), hl, Nat.sub_self, List.drop_eq_getElem_cons (show i < h.length by omega), List.set_cons_zero, List.take_add_one, List.getElem?_eq_getElem (show i < (List.zipWith (· + ·) h v).length by omega)]
  simp [List.getD_eq_getElem?_getD, List.getElem?_eq_getElem (show i < h.length by omega), List.getElem?_eq_getElem (show i < v.length by omega)]
theorem hz_end {h v : List W32} (hh : h.length = 8) (hv : v.length = 8) : hz h v 8 = List.zipWith (· + ·) h v := by
  unfold hz
  rw [List.take_of_length_le (by simp [hh, hv]), List.drop_of_length_le (by omega), List.append_nil]
theorem mixed_spec (hc : Cub w) (hb : RdB w.heap b l) (hl : l.length = 64) (hh : h.length = 8) : cal P f_sha_mixed [.agg (wvs h).toArray, b] w fun r w' => r = .agg (wvs (mixM h l)).toArray ∧ Fr [] w w' := by
  refine s_sha_mixed fun R hR => ?_
  unfold c_sha_mixed
  refine bx_s (Sep.start w) fun g2 w1 hs => ?_
  simp only [Value.cells] at hs
  refine alloc_s hs (A_a8 w1) fun g4 w2 hs => ?_
  rw [ldN_w (Sep.p1 hs).blk hh]
  refine alloc_s hs (A_a8 w2) fun g5 w3 hs => ?_
  refine stN_w hs (by simp) hh fun w4 hs => ?_
  refine cal_i (schedule_spec (hs.rdB hb) hl) ?_
  rintro _ w5 ⟨rfl, hf5⟩
  replace hs := hs.old hf5
  have hsl := sch_len l 64
  refine ⟨fun a w' => ∃ t : Nat, a = .int .i64 t ∧ t ≤ 64 ∧ Sep w w' [wa g5 (rns l h t) T_a8_uint32, wa g4 (List.replicate 8 0) T_a8_uint32, wa g2 h T_a8_uint32], fun z _ => (64 - RowKit.intOf z).toNat, ⟨0, rfl, by omega, hs⟩, ?_⟩
  rintro _ w6 ⟨t, rfl, ht, hs6⟩ -
  simp only [fx, Nat.reduceAdd, forall_const]
  have hvl := rns_len l hh t
  rw [cnd_bool]
  refine ⟨fun hlt => ?_, fun hlt => ?_⟩
  · have h64 : t < 64 := by simp at hlt; omega
    rw [ixv_w .i64 hsl h64]
    refine drw_s hs6 fun w7 hs7 _ => ?_
    generalize hv : rns l h t = v at *
    have i0 : ∀ K, ixa 8 1 (.pointer (some ⟨g5, 0, none⟩)) (.int .i64 0) K = K (.pointer (some ⟨g5, 0, none⟩)) := fun K => ixa_l .i64 0 (by decide) (by decide) K
    have i1 : ∀ K, ixa 8 1 (.pointer (some ⟨g5, 0, none⟩)) (.int .i64 1) K = K (.pointer (some ⟨g5, 1, none⟩)) := fun K => ixa_l .i64 1 (by decide) (by decide) K
    have i2 : ∀ K, ixa 8 1 (.pointer (some ⟨g5, 0, none⟩)) (.int .i64 2) K = K (.pointer (some ⟨g5, 2, none⟩)) := fun K => ixa_l .i64 2 (by decide) (by decide) K
    have i3 : ∀ K, ixa 8 1 (.pointer (some ⟨g5, 0, none⟩)) (.int .i64 3) K = K (.pointer (some ⟨g5, 3, none⟩)) := fun K => ixa_l .i64 3 (by decide) (by decide) K
    have i4 : ∀ K, ixa 8 1 (.pointer (some ⟨g5, 0, none⟩)) (.int .i64 4) K = K (.pointer (some ⟨g5, 4, none⟩)) := fun K => ixa_l .i64 4 (by decide) (by decide) K
    have i5 : ∀ K, ixa 8 1 (.pointer (some ⟨g5, 0, none⟩)) (.int .i64 5) K = K (.pointer (some ⟨g5, 5, none⟩)) := fun K => ixa_l .i64 5 (by decide) (by decide) K
    have i6 : ∀ K, ixa 8 1 (.pointer (some ⟨g5, 0, none⟩)) (.int .i64 6) K = K (.pointer (some ⟨g5, 6, none⟩)) := fun K => ixa_l .i64 6 (by decide) (by decide) K
    have i7 : ∀ K, ixa 8 1 (.pointer (some ⟨g5, 0, none⟩)) (.int .i64 7) K = K (.pointer (some ⟨g5, 7, none⟩)) := fun K => ixa_l .i64 7 (by decide) (by decide) K
    rw [i0, ld_w hs7.blk (by omega), i4, ld_w hs7.blk (by omega)]
    refine cal_i (Rot_spec (-6) 6 (by decide) (by decide)) ?_
    rintro _ _ ⟨rfl, rfl⟩
    refine cal_i (Rot_spec (-11) 11 (by decide) (by decide)) ?_
    rintro _ _ ⟨rfl, rfl⟩
    rw [wv_xor]
    refine cal_i (Rot_spec (-25) 25 (by decide) (by decide)) ?_
    rintro _ _ ⟨rfl, rfl⟩
    rw [wv_xor]
    refine drw_s hs7 fun w8 hs8 _ => ?_
    obtain ⟨tc, fc, hcub⟩ := hc.fr hs8.fr0
    rw [i7, ld_w hs8.blk (by omega), wv_add, i5, ld_w hs8.blk (by omega), wv_and, wv_not, i6, ld_w hs8.blk (by omega), wv_and, wv_xor, wv_add, ixa_w .i64 h64, ld_w hcub (by show t < 64; omega), wv_add, wv_add]
    refine cal_i (Rot_spec (-2) 2 (by decide) (by decide)) ?_
    rintro _ _ ⟨rfl, rfl⟩
    refine cal_i (Rot_spec (-13) 13 (by decide) (by decide)) ?_
    rintro _ _ ⟨rfl, rfl⟩
    rw [wv_xor]
    refine cal_i (Rot_spec (-22) 22 (by decide) (by decide)) ?_
    rintro _ _ ⟨rfl, rfl⟩
    have hld : ∀ i, i < 8 → ∀ K, ld1 (.pointer (some ⟨g5, i, none⟩)) w8.heap K = K (wv (v.getD i 0)) := fun i hi K => ld_w hs8.blk (by omega) K
    rw [wv_xor, i1, hld 1 (by decide), wv_and, i2, hld 2 (by decide), wv_and, wv_xor, i1, hld 1 (by decide), i2, hld 2 (by decide), wv_and, wv_xor, wv_add, wv_add, i1, hld 1 (by decide), i2, hld 2 (by decide), i3, hld 3 (by decide), wv_add, i5, hld 5 (by decide), i6, hld 6 (by decide), B_a8]
    refine stN_w hs8 (by omega) rfl fun w9 hs9 => ?_
    rw [wi64 (by omega) (by omega)]
    refine ⟨⟨t + 1, by simp, by omega, ?_⟩, by simp [RowKit.intOf]; omega⟩
    rw [rns, hv]
    exact hs9
  · have h64 : t = 64 := by simp at hlt; omega
    subst h64
    generalize hv : rns l h 64 = v at *
    refine ⟨fun a w' => ∃ i : Nat, a = .int .i64 i ∧ i ≤ 8 ∧ Sep w w' [wa g2 (hz h v i) T_a8_uint32, wa g5 v T_a8_uint32, wa g4 (List.replicate 8 0) T_a8_uint32], fun z _ => (8 - RowKit.intOf z).toNat, ⟨0, rfl, by omega, by rw [hz_zero]; exact hs6.p2⟩, ?_⟩
    rintro _ w7 ⟨i, rfl, hi, hs7⟩ -
    simp only [fx, Nat.reduceAdd, forall_const]
    have hzl := hz_len hh hvl hi
    rw [cnd_bool]
    refine ⟨fun hlt => ?_, fun hlt => ?_⟩
    · have h8 : i < 8 := by simp at hlt; omega
      refine drH_s hs7 fun w8 hs8 _ => ?_
      simp only [rdS_ld1]
      rw [ixa_w .i64 h8, ld_w hs8.blk (by omega), ixa_w .i64 h8, ld_w (Sep.p1 hs8).blk (by omega), wv_add, ixa_w .i64 h8, hz_get hh hvl h8]
      refine efC_st1 (st_w hs8 (by omega) _ fun w9 hs9 => ?_)
      rw [wi64 (by omega) (by omega)]
      rw [hz_step hh hvl h8] at hs9
      exact ⟨⟨i + 1, by simp, by omega, hs9⟩, by simp [RowKit.intOf]; omega⟩
    · have h8 : i = 8 := by simp at hlt; omega
      subst h8
      rw [ldN_w hs7.blk hzl]
      refine stN_w hs7.p2 (by simp) hzl fun w8 hs8 => ?_
      rw [ldN_w hs8.blk hzl]
      refine hR _ _ ⟨?_, hs8.fr0⟩
      rw [hz_end hh hvl, mixM, hv]
end
end Go.Fx
set_option linter.unusedVariables false
set_option linter.unusedSimpArgs false
namespace Go.Fx
section
variable {w0 w : World} {b s : Value} {l m : List UInt8} {h : List W32} {As : List Asn}
theorem be_get (v : Nat) : ∀ n i, i < n → (be n v)[i]? = some (UInt8.ofNat (v / 256 ^ (n - 1 - i)))
  | n + 1, 0, _ => by rw [be_cons]; simp
  | n + 1, i + 1, h => by
    rw [be_cons, List.getElem?_cons_succ, be_get v n i (by omega)]
    congr 4
    omega
theorem be_take (v n i : Nat) (hi : i < n) : (be n v).take (i + 1) = (be n v).take i ++ [UInt8.ofNat (v / 256 ^ (n - 1 - i))] := by
  rw [List.take_add_one, be_get v n i hi]
  rfl
theorem shr56 (v i : Nat) (hi : i < 8) (K : Value → Prop) : sh .shr (.int .u64 (v : Int)) (.int .u64 ((56 - 8 * i : Nat) : Int)) K = K (.int .u64 ((v / 256 ^ (7 - i) : Nat) : Int)) := by
  rw [sh_shr _ _ _ _ _ (by omega)]
  have h1 : min (((56 - 8 * i : Nat) : Int)).toNat IntKind.u64.bits = 8 * (7 - i) := by show min _ 64 = _; omega
  have h2 : (2 : Int) ^ (8 * (7 - i)) = ((256 ^ (7 - i) : Nat) : Int) := by
    rw [Int.pow_mul]
    simp
  rw [h1, h2, Int.ofNat_fdiv]
end
end Go.Fx
set_option linter.unusedVariables false
set_option linter.unusedSimpArgs false
namespace Go.Fx
theorem wOut_get {h : List W32} {i : Nat} (hi : i < 4 * h.length) : (h.flatMap wOut)[i]? = some (UInt8.ofNat ((h.getD (i / 4) 0) >>> (24 - 8 * (i % 4))).toNat) := by
  induction h generalizing i with
  | nil => simp at hi
  | cons x h ih =>
    rw [List.flatMap_cons]
    by_cases h4 : i < 4
    · rw [List.getElem?_append_left (by simp [wOut]; omega)]
      have : i = 0 ∨ i = 1 ∨ i = 2 ∨ i = 3 := by omega
      rcases this with rfl | rfl | rfl | rfl <;> simp [wOut]
    · have hl : (wOut x).length = 4 := rfl
      rw [List.getElem?_append_right (by omega), hl, ih (by simp at hi; omega)]
      have e1 : i / 4 = (i - 4) / 4 + 1 := by omega
      have e2 : (i - 4) % 4 = i % 4 := by omega
      rw [e1, e2]
      rfl
section
variable {w0 w : World} {b : Value} {l : List UInt8} {As : List Asn}
theorem B_first (K : Value → Prop) : rdP P (Instr.build T_a8_uint32 #[(0, (Value.int IntKind.u32 1779033703)), (1, (Value.int IntKind.u32 3144134277)), (2, (Value.int IntKind.u32 1013904242)), (3, (Value.int IntKind.u32 2773480762)), (4, (Value.int IntKind.u32 1359893119)), (5, (Value.int IntKind.u32 2600822924)), (6, (Value.int IntKind.u32 528734635)), (7, (Value.int IntKind.u32 1541459225))]) w K = K (.agg (wvs firstL).toArray) := rdP_eq (by kernel_rfl) K
end
end Go.Fx
set_option linter.unusedVariables false
set_option linter.unusedSimpArgs false
namespace Go.Fx
/-- 'append(nil, make([]byte, n)...)'. -/
theorem appMade {P : Program} {t tx ty E : Nat} {w0 w : World} {As : List Asn} {n : Nat} {K : Value → World → Prop} (hT : SlT P t E 1 1) (hx : P.underlying tx = some (.int .i64)) (hs : Sep w0 w As) (h0 : 0 < n) (hn : n ≤ 1000000)
    (h : ∀ g c w', Sep w0 w' (ownB (.slice (some ⟨g, 0, none⟩) 0 c) [] :: As) → K (.slice (some ⟨g, 0, none⟩) n c) w') : efP P (Builtin.append_ #[t, tx] ty #[.slice none 0 0, .int .i64 n]) w K := by
  obtain ⟨i, z, hi, hsz, hby, hz, hzc⟩ := slT_info hT
  have hund := hT.und
  have hzs : z.cells.size = 1 := by rw [hzc]; exact hT.zcs
  have h48 : ¬ (281474976710656 < Builtin.nextslicecap n 0 * i.bytes) := by
    rw [hby]; have := growslice_fits (old := 0) (need := n) (bytes := 1) h0 (by omega); omega
  have hold : Cel w.drew.heap (.slice none 0 0) 1 0 [] := ⟨none, 0, rfl, rfl, .inl rfl⟩
  have holdr := hold.load (P := P)
  have hge := grownCap_ge w n 0 E
  refine ⟨.slice (some ⟨w.heap.size, 0, none⟩) n (grownCap w n 0 E), w.drew.alloc (.cells (Builtin.zeroCells z.cells n ++ Builtin.zeroCells z.cells (grownCap w n 0 E - n)) E), ?_, h _ _ _ (hs.new (((Fr.refl [] w).drew _).trans (fr_alloc _ _) (by simp) (by simp)) (B := ownB _ _) (F' := [w.heap.size]) ⟨rfl, .inr ⟨w.heap.size, 0, _, _, E, rfl, Nat.zero_le _, alloc_new w.drew _, ?_, by simp [bvs], rfl⟩⟩ (by simp))⟩
  · have hw : IntKind.i64.wrap (n : Int) = n := wi64 (by omega) (by omega)
    simp only [Builtin.append_, Sem.run_bind, Sem.run_pure, List.getElem?_toArray, List.getElem?_cons_zero, List.getElem?_cons_succ, run_underlying hund, Result.andThen_ok, run_sizeOf hT.siz, run_underlying hx]
    have ha : Sem.run P (asIntOf (.int .i64 (n : Int))) w = .ok (.i64, (n : Int)) w := rfl
    have h1 : ¬ ((n : Int) < 0) := by omega
    have h2 : ¬ (281474976710656 < (n : Int)) := by omega
    have h3 : ¬ n = 0 := by omega
    have h4 : ¬ (9223372036854775807 < (n : Int)) := by omega
    have h48' : ¬ (281474976710656 < Builtin.nextslicecap n 0) := by rw [hby, Nat.mul_one] at h48; exact h48
    simp [asInt, ha, hw, typeInfo, hi, hby, h1, h2, h3, h4, h48', zeroValue, hz, Question.forced, holdr, newRow, grownCap]
  · simp only [Array.size_append, size_zeroCells, hzs]
    omega
theorem cap_sl {P : Program} {t t' e : TypeId} {w : World} {a : Option Addr} {n c : Nat} (hu : P.underlying t = some (.slice e)) (K : Value → Prop) : rdP P (Builtin.cap_ #[t] t' #[.slice a n c]) w K = K (.int .i64 c) := by
  refine rdP_eq ?_ K
  simp [Builtin.cap_, run_underlying hu, goInt]
section
variable {w0 w : World} {b s : Value} {l m : List UInt8} {As : List Asn}
theorem Grow_spec (n : Nat) (hn : n ≤ 1000000) : cal P f_slices_Grow_byte_byte [.slice none 0 0, .int .i64 n] w fun r w' => Sep w w' [ownB r []] := by
  refine s_slices_Grow_byte_byte fun R hR => ?_
  unfold c_slices_Grow_byte_byte
  have e0 : decide ((n : Int) < 0) = false := by simp
  simp only [fx, Nat.reduceAdd, forall_const, e0, cap_sl U_sl_uint8, Int.natCast_zero, Int.sub_zero]
  rw [wi64 (x := 0) (by decide) (by decide), Int.sub_zero, wi64 (by omega) (by omega), cnd_bool]
  refine ⟨fun h => ?_, fun h => ?_⟩
  · have h0 : 0 < n := by simp at h; omega
    rw [show (Value.int .i64 0) = .int .i64 ((0 : Nat) : Int) from rfl, slc_to (Nat.le_refl 0)]
    refine appMade S_sl_uint8 U_int (Sep.start w) h0 hn fun g c w1 hs => ?_
    rw [slc_to (Nat.zero_le _)]
    exact hR _ _ hs
  · exact hR _ _ (Sep.start w).nil
end
end Go.Fx
set_option linter.unusedVariables false
set_option linter.unusedSimpArgs false
namespace Go.Fx
section
variable {w0 w : World} {v s0 s1 : Value} {l m : List UInt8} {As : List Asn}
theorem Concat_spec (hv : Cel w.heap v 1 2 [s0, s1]) (h0 : RdB w.heap s0 l) (h1 : RdB w.heap s1 m) (hl : l.length + m.length ≤ 1000000) : cal P f_slices_Concat_byte_byte [v] w fun r w' => Sep w w' [ownB r (l ++ m)] := by
  refine s_slices_Concat_byte_byte fun R hR => ?_
  unfold c_slices_Concat_byte_byte
  obtain ⟨a, c, hva, _⟩ := id hv
  have hlen : ∀ K, lenS v K = K (.int .i64 ((2 : Nat) : Int)) := fun K => by rw [hva, lenS_mk]
  obtain ⟨f, hf⟩ : ∃ f : Nat → Nat, f = fun i => if i = 0 then 0 else if i = 1 then l.length else l.length + m.length := ⟨_, rfl⟩
  have hf0 : f 0 = 0 := by rw [hf]; rfl
  have hf1 : f 1 = l.length := by rw [hf]; rfl
  have hf2 : f 2 = l.length + m.length := by rw [hf]; rfl
  simp only [hlen]
  refine ⟨fun x y w' => ∃ i : Nat, x = .int .i64 (f i : Nat) ∧ y = .int .i64 i ∧ i ≤ 2 ∧ w' = w, fun _ y _ => (2 - RowKit.intOf y).toNat, ⟨0, by rw [hf0]; rfl, rfl, by omega, rfl⟩, ?_⟩
  rintro _ _ w1 ⟨i, rfl, rfl, hi, rfl⟩ -
  simp only [fx, Nat.reduceAdd, forall_const]
  rw [cnd_bool]
  refine ⟨fun h => ?_, fun h => ?_⟩
  · have hlt : i = 0 ∨ i = 1 := by simp at h; omega
    refine ⟨fun t w' => t = .int .i64 (f (i + 1) : Nat) ∧ w' = w1, ?_, ?_⟩
    · rcases hlt with rfl | rfl
      · refine ldx hv (j := 0) (u := s0) rfl ?_
        rw [h0.len]
        simp only [fx, Nat.reduceAdd, forall_const]
        rw [hf0, hf1, wi64 (by omega) (by omega), decide_eq_false (by omega), cnd_false]
        exact ⟨by simp, trivial⟩
      · refine ldx hv (j := 1) (u := s1) rfl ?_
        rw [h1.len]
        simp only [fx, Nat.reduceAdd, forall_const]
        rw [hf1, hf2, wi64 (by omega) (by omega), decide_eq_false (by omega), cnd_false]
        exact ⟨by simp, trivial⟩
    · rintro _ _ ⟨rfl, rfl⟩ -
      rw [wi64 (by omega) (by omega)]
      exact ⟨⟨i + 1, rfl, by simp, by omega, rfl⟩, by simp [RowKit.intOf]; omega⟩
  · have h2 : i = 2 := by simp at h; omega
    subst h2
    rw [hf2]
    refine cal_i (Grow_spec (l.length + m.length) hl) ?_
    rintro v2 w2 hs2
    obtain ⟨g, hg⟩ : ∃ g : Nat → List UInt8, g = fun i => if i = 0 then [] else if i = 1 then l else l ++ m := ⟨_, rfl⟩
    have hg0 : g 0 = [] := by rw [hg]; rfl
    have hg1 : g 1 = l := by rw [hg]; rfl
    have hg2 : g 2 = l ++ m := by rw [hg]; rfl
    refine ⟨fun x y w' => ∃ i : Nat, y = .int .i64 i ∧ i ≤ 2 ∧ Sep w1 w' [ownB x (g i)], fun _ y _ => (2 - RowKit.intOf y).toNat, ⟨0, rfl, by omega, by rw [hg0]; exact hs2⟩, ?_⟩
    rintro v3 _ w3 ⟨i, rfl, hi, hs3⟩ -
    simp only [fx, Nat.reduceAdd, forall_const]
    rw [cnd_bool]
    refine ⟨fun h => ?_, fun h => ?_⟩
    · have hlt : i = 0 ∨ i = 1 := by simp at h; omega
      have hv3 : Cel w3.heap v 1 2 [s0, s1] := hv.fr hs3.fr0 (off_nil _)
      rcases hlt with rfl | rfl
      · refine ldx hv3 (j := 0) (u := s0) rfl ?_
        rw [hg0] at hs3
        refine appB_s S_sl_uint8 U_sl_uint8 (by simp) hs3 (hs3.rdB h0) (by simp; omega) fun v4 w4 hs4 => ?_
        rw [wi64 (by omega) (by omega)]
        exact ⟨⟨1, by simp, by omega, by rw [hg1]; exact hs4⟩, by simp [RowKit.intOf]⟩
      · refine ldx hv3 (j := 1) (u := s1) rfl ?_
        rw [hg1] at hs3
        refine appB_s S_sl_uint8 U_sl_uint8 (by simp) hs3 (hs3.rdB h1) (by omega) fun v4 w4 hs4 => ?_
        rw [wi64 (by omega) (by omega)]
        exact ⟨⟨2, by simp, by omega, by rw [hg2]; exact hs4⟩, by simp [RowKit.intOf]⟩
    · have h2 : i = 2 := by simp at h; omega
      subst h2
      rw [hg2] at hs3
      exact hR _ _ hs3
end
end Go.Fx
set_option linter.unusedVariables false
set_option linter.unusedSimpArgs false
namespace Go.Fx
abbrev VW (n : Nat) := {l : List W32 // l.length = n}
def rW (n : Nat) : Rdr (VW n) where
  size := n
  cells l := wvs l.1
  ok _ _ := True
  len l := by simp [wvs, l.2]
  one _ := wvs_one _
  fr h _ := h
abbrev Q_St := Rdr.pair (rW 8) (Rdr.pair qv (Rdr.pair (rInt .i64) rBool))
abbrev st (g : Nat) (h : VW 8) (s : Value) (n : Int) : Asn := blk g (Rdr.cells Q_St (h, s, n, true)).toArray T_sha_State
def first8 : VW 8 := ⟨firstL, rfl⟩
section
variable {w0 w : World} {v b s : Value} {l r : List UInt8} {As : List Asn} {g : Nat} {h : VW 8} {n : Int}
theorem first_spec : cal P f_sha_first [] w fun r w' => r = .agg (wvs firstL).toArray ∧ Fr [] w w' := by
  refine s_sha_first fun R hR => ?_
  unfold c_sha_first
  refine alloc_s (Sep.start w) (A_a8 w) fun g w1 hs => ?_
  rw [B_first]
  refine stN_w hs (by simp) rfl fun w2 hs => ?_
  rw [ldN_w (n := 8) hs.blk rfl]
  exact hR _ _ ⟨rfl, hs.fr0⟩
theorem B_St (K : Value → Prop) : rdP P (Instr.build T_sha_State #[(0, .agg (wvs firstL).toArray), (3, .bool true)]) w K = K (.agg (Rdr.cells Q_St (first8, .slice none 0 0, 0, true)).toArray) := rdP_eq (by kernel_rfl) K
theorem New_spec : cal P f_sha_New [] w fun r w' => ∃ g, r = .pointer (some ⟨g, 0, none⟩) ∧ Sep w w' [st g first8 (.slice none 0 0) 0] := by
  refine s_sha_New fun R hR => ?_
  unfold c_sha_New
  refine cal_i first_spec ?_
  rintro _ w1 ⟨rfl, hf1⟩
  rw [B_St]
  refine bx_s ((Sep.start w).old hf1) fun g w2 hs => ?_
  exact hR _ _ ⟨g, rfl, hs⟩
theorem none_spec (hs : Sep w0 w (st g h s n :: As)) : cal P f_sha_State_none [.pointer (some ⟨g, 0, none⟩)] w fun r w' => r = .bool false ∧ w = w' := by
  refine s_sha_State_none fun R hR => ?_
  unfold c_sha_State_none
  simp only [fx, Nat.reduceAdd, forall_const]
  have hb := Fld.ldB (r := Q_St) (Fld.snd (Fld.snd (Fld.snd Fld.self))) hs.blk
  refine jn1_dup ?_
  rw [show (Value.pointer (some ⟨g, 10, none⟩)) = .pointer (some ⟨g, 8 + (1 + (1 + 0)), none⟩) from rfl]
  refine (hb _).mpr ?_
  simp only [fx, Nat.reduceAdd, forall_const]
  exact hR _ _ ⟨rfl, rfl⟩
/-- A part of an owned slice, to its end. -/
def Rest (v : Value) (l : List UInt8) (u : Value) (m : List UInt8) : Prop := ∃ a n c, u = .slice a n c ∧ n = m.length ∧ n ≤ c ∧ ∀ z : World, RdB z.heap v l → RdB z.heap u m
theorem Rest.start {a : Option Addr} {c : Nat} (hc : l.length ≤ c) : Rest (.slice a l.length c) l (.slice a l.length c) l := ⟨a, _, c, rfl, rfl, hc, fun _ h => h⟩
theorem Rest.to {u : Value} {m : List UInt8} (hr : Rest v l u m) (h64 : 64 ≤ m.length) (K : Value → Prop) (h : ∀ x, (∀ z : World, RdB z.heap v l → RdB z.heap x (m.take 64)) → K x) : slc 1 u none (some (.int .i64 64)) K := by
  obtain ⟨a, n, c, rfl, rfl, hc, hx⟩ := hr
  have := slc_to (size := 1) (n := m.length) (a := a) (k := .i64) (show 64 ≤ c by omega) K
  rw [show (Value.int .i64 64) = .int .i64 ((64 : Nat) : Int) from rfl, this]
  exact h _ fun z hz => (hx z hz).take h64 c
theorem Rest.from {u : Value} {m : List UInt8} (hr : Rest v l u m) (h64 : 64 ≤ m.length) (K : Value → Prop) (h : ∀ x, Rest v l x (m.drop 64) → K x) : slc 1 u (some (.int .i64 64)) none K := by
  obtain ⟨a, n, c, rfl, rfl, hc, hx⟩ := hr
  have := slc_from (size := 1) (c := c) (a := a) (k := .i64) h64 K
  rw [show (Value.int .i64 64) = .int .i64 ((64 : Nat) : Int) from rfl, this]
  exact h _ ⟨_, _, _, rfl, by simp, by omega, fun z hz => (hx z hz).drop h64 hc (c - 64)⟩
theorem Rest.len {u : Value} {m : List UInt8} (hr : Rest v l u m) (K : Value → Prop) : lenS u K = K (.int .i64 m.length) := by
  obtain ⟨a, n, c, rfl, rfl, hc, hx⟩ := hr
  exact lenS_mk a _ c K
end
end Go.Fx
set_option linter.unusedVariables false
set_option linter.unusedSimpArgs false
namespace Go.Fx
theorem foldM_one {h : List W32} {m : List UInt8} (hm : m.length = 64) : foldM h m = mixM h m := by
  rw [foldM_step (by omega), List.take_of_length_le (by omega), List.drop_of_length_le (by omega), foldM_end (by simp)]
section
variable {w0 w : World} {v b s : Value} {l r : List UInt8} {As : List Asn} {g : Nat} {h : VW 8} {n : Int}
theorem ldS_h {hp : Heap} {t : TypeId} {fr : Nat × Nat} {a} (hg : hp[g]? = some (.cells (Rdr.cells Q_St a).toArray t fr)) (K : Value → Prop) : ldN 8 (.pointer (some ⟨g, 0, none⟩)) hp K = K (.agg (wvs a.1.1).toArray) := Fld.ldN (r := Q_St) (s := rW 8) (Fld.fst Fld.self) hg K
theorem ldS_s {hp : Heap} {t : TypeId} {fr : Nat × Nat} {a} (hg : hp[g]? = some (.cells (Rdr.cells Q_St a).toArray t fr)) (K : Value → Prop) : ld1 (.pointer (some ⟨g, 8, none⟩)) hp K = K a.2.1 := Fld.ld1 (r := Q_St) (Fld.snd (Fld.fst Fld.self)) hg K
theorem ldS_n {hp : Heap} {t : TypeId} {fr : Nat × Nat} {a} (hg : hp[g]? = some (.cells (Rdr.cells Q_St a).toArray t fr)) (K : Value → Prop) : ld1 (.pointer (some ⟨g, 9, none⟩)) hp K = K (.int .i64 a.2.2.1) := Fld.ldI (r := Q_St) (Fld.snd (Fld.snd (Fld.fst Fld.self))) hg K
theorem stS_h {K : World → Prop} (hs : Sep w0 w (st g h s n :: As)) {l' : List W32} (hl : l'.length = 8) (hk : ∀ w', Sep w0 w' (st g ⟨l', hl⟩ s n :: As) → K w') : stN 8 (.pointer (some ⟨g, 0, none⟩)) (.agg (wvs l').toArray) w K :=
  Fld.stN (r := Q_St) (s := rW 8) (Fld.fst Fld.self) (b := ⟨l', hl⟩) hs (wvs_one _) hk
theorem stS_s {K : World → Prop} (hs : Sep w0 w (st g h s n :: As)) {s' : Value} (h1 : s'.oneCell' = true) (hk : ∀ w', Sep w0 w' (st g h s' n :: As) → K w') : st1 (.pointer (some ⟨g, 8, none⟩)) s' w K :=
  Fld.stV (r := Q_St) (s := qv) (Fld.snd (Fld.fst Fld.self)) rfl hs h1 hk
theorem stS_n {K : World → Prop} (hs : Sep w0 w (st g h s n :: As)) {n' : Int} (hk : ∀ w', Sep w0 w' (st g h s n' :: As) → K w') : st1 (.pointer (some ⟨g, 9, none⟩)) (.int .i64 n') w K :=
  Fld.stV (r := Q_St) (s := rInt .i64) (Fld.snd (Fld.snd (Fld.fst Fld.self))) rfl hs rfl hk
theorem Write_spec (hc : Cub w0) (hs : Sep w0 w (st g first8 (.slice none 0 0) 0 :: As)) (hv : Cel w0.heap v 1 1 [b] ∨ ∃ Bs, As = own v 1 1 [b] :: Bs) (hb : RdB w0.heap b l) (hl : l.length ≤ 100000) :
    cal P f_sha_State_Write [.pointer (some ⟨g, 0, none⟩), v] w fun _ w' => ∃ (a r : List UInt8) (h : VW 8) (s : Value), l = a ++ r ∧ a.length % 64 = 0 ∧ r.length < 64 ∧ h.1 = foldM firstL a ∧ Sep w0 w' (st g h s l.length :: ownB s r :: As) := by
  refine s_sha_State_Write fun R hR => ?_
  unfold c_sha_State_Write
  refine cal_i (none_spec hs) ?_
  rintro _ _ ⟨rfl, rfl⟩
  have hcel : ∀ {z : World} {x : Asn}, Sep w0 z (x :: As) → Cel z.heap v 1 1 [b] := fun {z x} hz => by
    rcases hv with hv | ⟨Bs, rfl⟩
    · exact hv.fr hz.fr0 (off_nil _)
    · exact Sep.cel hz.p1
  obtain ⟨a, c, hva, _⟩ := id (hcel hs)
  have hlen : ∀ K, lenS v K = K (.int .i64 ((1 : Nat) : Int)) := fun K => by rw [hva, lenS_mk]
  simp only [fx, Nat.reduceAdd, forall_const, hlen]
  refine ⟨fun x w' => ∃ i : Nat, x = .int .i64 i ∧ i ≤ 1 ∧ (i = 0 → Sep w0 w' (st g first8 (.slice none 0 0) 0 :: As)) ∧ (i = 1 → ∃ (a r : List UInt8) (h : VW 8) (s : Value), l = a ++ r ∧ a.length % 64 = 0 ∧ r.length < 64 ∧ h.1 = foldM firstL a ∧ Sep w0 w' (st g h s l.length :: ownB s r :: As)),
    fun z _ => (1 - RowKit.intOf z).toNat, ⟨0, rfl, by omega, fun _ => hs, fun h => by cases h⟩, ?_⟩
  rintro _ w1 ⟨i, rfl, hi, hi0, hi1⟩ -
  simp only [fx, Nat.reduceAdd, forall_const]
  rw [cnd_bool]
  refine ⟨fun hlt => ?_, fun hlt => ?_⟩
  · have h0 : i = 0 := by simp at hlt; omega
    subst h0
    have hs1 := hi0 rfl
    refine ldx (hcel hs1) (j := 0) (u := b) rfl ?_
    rw [ldS_n hs1.blk, (hs1.rdB hb).len]
    simp only [fx, Nat.reduceAdd, forall_const]
    rw [wi64 (by omega) (by omega)]
    refine stS_n hs1 fun w2 hs2 => ?_
    simp only [fx, Nat.reduceAdd, forall_const, ldS_s hs2.blk]
    have hbs : ∀ (w : World), (Instr.buildSlice T_sl_sl_uint8 2 #[(0, .slice none 0 0), (1, b)]).run P w = .ok (.slice (some ⟨w.heap.size, 0, none⟩) 2 2) (w.alloc (.cells ([.slice none 0 0, b] : List Value).toArray T_sl_uint8)) := by
      obtain ⟨a, c, rfl, _⟩ := hb
      intro w
      kernel_rfl
    refine build_s (cs := [.slice none 0 0, b]) (size := 1) hs2 rfl (hbs _) fun g3 w3 hs3 => ?_
    refine cal_i (Concat_spec (l := []) (m := l) (Sep.cel hs3) ⟨none, 0, rfl, rfl, .inl rfl⟩ (hs3.rdB hb) (by simp; omega)) ?_
    rintro v4 w4 hs4
    rw [List.nil_append] at hs4
    replace hs4 := (hs3.join hs4).d1.p1
    obtain ⟨a4, c4, rfl, hc4⟩ := Sep.form hs4.p1
    refine ⟨fun u w' => ∃ (k : Nat) (h : VW 8), k ≤ l.length ∧ k % 64 = 0 ∧ h.1 = foldM firstL (l.take k) ∧ Rest (.slice a4 l.length c4) l u (l.drop k) ∧ Sep w0 w' (st g h (.slice none 0 0) l.length :: ownB (.slice a4 l.length c4) l :: As), fun u _ => match u with
      | .slice _ n _ => n
      | _ => 0, ⟨0, first8, by omega, rfl, by rw [List.take_zero, foldM_end (by simp)]; rfl, Rest.start hc4, by simpa using hs4⟩, ?_⟩
    rintro u w5 ⟨k, h5, hk, hkm, hh5, hrest, hs5⟩ -
    simp only [hrest.len, List.length_drop]
    rw [bi_geq, cnd_bool]
    refine ⟨fun h => ?_, fun h => ?_⟩
    · have h64 : 64 ≤ (l.drop k).length := by simp at h ⊢; omega
      refine drH_s hs5 fun w6 hs6 _ => ?_
      simp only [fx, Nat.reduceAdd, forall_const, rdS_ldN, ldS_h hs6.blk]
      refine hrest.to h64 _ fun x hx => ?_
      refine efC_cal (cal_i (mixed_spec (hc.fr hs6.fr0) (hx _ (Sep.rd hs6.p1)) (by rw [List.length_take]; omega) h5.2) ?_)
      rintro _ w7 ⟨rfl, hf7⟩
      have hs7 := hs6.old hf7
      refine efC_stN (stS_h hs7 (mixM_len _ h5.2) fun w8 hs8 => ?_)
      refine hrest.from h64 _ fun u' hu' => ?_
      rw [List.drop_drop] at hu'
      have hll : k + 64 ≤ l.length := by simp at h64; omega
      refine ⟨⟨k + 64, _, hll, by omega, ?_, hu', hs8⟩, ?_⟩
      · show mixM h5.1 _ = _
        rw [hh5, List.take_add, foldM_app (by rw [List.length_take]; omega), foldM_one (m := (l.drop k).take 64) (by rw [List.length_take]; omega)]
      · obtain ⟨_, n1, _, rfl, e1, _⟩ := hrest
        obtain ⟨_, n2, _, rfl, e2, _⟩ := hu'
        simp only [List.length_drop] at e1 e2
        simp only []
        omega
    · have h64 : (l.drop k).length < 64 := by simp at h ⊢; omega
      obtain ⟨_, _, _, _, _, _, hx⟩ := id hrest
      refine cal_i (bClone_spec (hx _ (Sep.rd hs5.p1)) (by rw [List.length_drop]; omega)) ?_
      rintro v6 w6 hs6
      replace hs6 := (hs5.join hs6).p1
      refine stS_s hs6 (Sep.one hs6.p1) fun w7 hs7 => ?_
      rw [wi64 (by omega) (by omega)]
      refine ⟨⟨1, by simp, by omega, fun h => (by cases h), fun _ => ⟨l.take k, l.drop k, h5, v6, (List.take_append_drop k l).symm, by rw [List.length_take]; omega, h64, hh5, hs7.d2⟩⟩, by simp [RowKit.intOf]⟩
  · have h1 : i = 1 := by simp at hlt; omega
    exact hR _ _ (hi1 h1)
end
end Go.Fx
set_option linter.unusedVariables false
set_option linter.unusedSimpArgs false
namespace Go.Fx
section
variable {w0 w : World} {v b s : Value} {l r : List UInt8} {As : List Asn} {g : Nat} {h : VW 8} {n : Nat}
theorem Sum_spec (hc : Cub w0) (hs : Sep w0 w (st g h s n :: ownB s r :: As)) (hr : r.length < 64) (hn : n ≤ 100000) :
    cal P f_sha_State_Sum [.pointer (some ⟨g, 0, none⟩)] w fun v w' => v = .agg (bvs ((foldM h.1 (padT r n)).flatMap wOut)).toArray ∧ Sep w0 w' (st g h s n :: ownB s r :: As) := by
  refine s_sha_State_Sum fun R hR => ?_
  unfold c_sha_State_Sum
  refine alloc_s hs (A_api_ID w) fun g2 w1 hs => ?_
  refine alloc_s hs (A_api_ID w1) fun g3 w2 hs => ?_
  refine cal_i (none_spec (Sep.p2 hs)) ?_
  rintro _ _ ⟨rfl, rfl⟩
  simp only [fx, Nat.reduceAdd, forall_const, ldS_s (Sep.p2 hs).blk]
  refine cal_i (bClone_spec (Sep.p3 hs).rd (by omega)) ?_
  rintro v1 w3 hs1
  replace hs1 := hs.join hs1
  refine app0 128 (.inr rfl) hs1 (by omega) fun v2 w4 hs2 => ?_
  rw [if_neg (by decide)] at hs2
  obtain ⟨Bs, hBs⟩ : ∃ Bs, Bs = blk g3 (Rdr.cells (rVec 32) (vz 32)).toArray T_api_ID :: blk g2 (Rdr.cells (rVec 32) (vz 32)).toArray T_api_ID :: st g h s n :: ownB s r :: As := ⟨_, rfl⟩
  have hz := zer_le (r.length + 1)
  have hs2' : Sep w0 w4 (ownB v2 (r ++ [128]) :: Bs) := by rw [hBs]; exact hs2
  refine ⟨fun a w' => ∃ j : Nat, j ≤ zer (r.length + 1) ∧ Sep w0 w' (ownB a (r ++ [128] ++ List.replicate j 0) :: Bs), fun a _ => match a with
    | .slice _ n _ => (r.length + 1 + zer (r.length + 1)) - n
    | _ => 0, ⟨0, by omega, by simpa using hs2'⟩, ?_⟩
  rintro v3 w5 ⟨j, hj, hs3⟩ -
  obtain ⟨a3, c3, rfl⟩ := Sep.sl hs3
  have hlen : (r ++ [128] ++ List.replicate j 0).length = r.length + 1 + j := by simp; omega
  simp only [lenS_mk, hlen]
  rw [bi_rem .i64 _ _ _ (by decide), show (64 : Int) = ((64 : Nat) : Int) from rfl, tmodn, bi_neq, cnd_bool]
  refine ⟨fun hq => ?_, fun hq => ?_⟩
  · have h56 : (r.length + 1 + j) % 64 ≠ 56 := by simp at hq; omega
    have hjz : j < zer (r.length + 1) := by
      rcases Nat.lt_or_ge j (zer (r.length + 1)) with h' | h'
      · exact h'
      · have : j = zer (r.length + 1) := by omega
        rw [this, zer_eq] at h56
        exact absurd rfl h56
    rw [← hlen]
    refine app0 0 (.inl rfl) hs3 (by rw [hlen]; omega) fun v4 w6 hs4 => ?_
    rw [if_pos rfl] at hs4
    have e : r ++ [128] ++ List.replicate j 0 ++ [0] = r ++ [128] ++ List.replicate (j + 1) 0 := by rw [List.replicate_succ', List.append_assoc]
    rw [e] at hs4
    obtain ⟨a4, c4, rfl⟩ := Sep.sl hs4
    refine ⟨⟨j + 1, by omega, hs4⟩, ?_⟩
    simp
    omega
  · have h56 : (r.length + 1 + j) % 64 = 56 := by simp at hq; omega
    have hjz : j = zer (r.length + 1) := by
      rcases Nat.lt_or_ge j (zer (r.length + 1)) with h' | h'
      · exact absurd h56 (zer_lt h')
      · omega
    rw [← hlen]
    have hst : Sep w0 w5 (st g h s n :: blk g3 (Rdr.cells (rVec 32) (vz 32)).toArray T_api_ID :: blk g2 (Rdr.cells (rVec 32) (vz 32)).toArray T_api_ID :: ownB s r :: As) := by
      have := hs3.tail
      rw [hBs] at this
      exact this.p2
    simp only [fx, Nat.reduceAdd, forall_const, ldS_n hst.blk]
    rw [wu64n, Nat.mod_eq_of_lt (by omega), show ((n : Int) * 8) = ((n * 8 : Nat) : Int) by simp, wu64n]
    generalize hv : n * 8 % 18446744073709551616 = x
    have hvb : x < 18446744073709551616 := by omega
    refine ⟨fun a c w' => ∃ i : Nat, c = .int .i64 i ∧ i ≤ 8 ∧ Sep w0 w' (ownB a (r ++ [128] ++ List.replicate j 0 ++ (be 8 x).take i) :: Bs), fun _ c _ => (8 - RowKit.intOf c).toNat, ⟨0, rfl, by omega, by simpa using hs3⟩, ?_⟩
    rintro v5 _ w6 ⟨i, rfl, hi, hs5⟩ -
    simp only [fx, Nat.reduceAdd, forall_const]
    rw [cnd_bool]
    refine ⟨fun hq => ?_, fun hq => ?_⟩
    · have h8 : i < 8 := by simp at hq; omega
      have e1 : IntKind.i64.wrap (56 - IntKind.i64.wrap (8 * (i : Int))) = ((56 - 8 * i : Nat) : Int) := by
        rw [wi64 (x := 8 * (i : Int)) (by omega) (by omega), wi64 (by omega) (by omega)]
        omega
      have hsh : ∀ K, sh .shr (.int .u64 (x : Int)) (.int .i64 ((56 - 8 * i : Nat) : Int)) K = K (.int .u64 ((x / 256 ^ (7 - i) : Nat) : Int)) := fun K => by
        have := shr56 x i h8 K
        rw [sh_shr _ _ _ _ _ (by omega)] at this ⊢
        exact this
      rw [e1, hsh]
      rw [cvi_int, bv_of _ (Int.natCast_nonneg _), Int.toNat_natCast]
      refine app1 hs5 (by simp [be_length]; omega) fun v6 w7 hs6 => ?_
      rw [wi64 (by omega) (by omega)]
      rw [List.append_assoc, ← be_take x 8 i h8] at hs6
      exact ⟨⟨i + 1, by simp, by omega, hs6⟩, by simp [RowKit.intOf]; omega⟩
    · have h8 : i = 8 := by simp at hq; omega
      subst h8
      rw [List.take_of_length_le (by rw [be_length]; omega)] at hs5
      have hpad : r ++ [128] ++ List.replicate j 0 ++ be 8 x = padT r n := by rw [padT, hv, ← hjz]
      rw [hpad] at hs5
      have hlp : (padT r n).length ≤ 200 := by
        rw [padT]
        simp [be_length]
        omega
      have hmod := padT_len r n
      generalize padT r n = pad at *
      have hst5 : Sep w0 w6 (st g h s n :: blk g3 (Rdr.cells (rVec 32) (vz 32)).toArray T_api_ID :: blk g2 (Rdr.cells (rVec 32) (vz 32)).toArray T_api_ID :: ownB s r :: As) := by
        have := hs5.tail
        rw [hBs] at this
        exact this.p2
      simp only [fx, Nat.reduceAdd, forall_const, ldS_h hst5.blk]
      refine alloc_s hs5 (A_a8 w6) fun g4 w7 hs6 => ?_
      refine stN_w hs6 (by simp) h.2 fun w8 hs7 => ?_
      obtain ⟨a5, c5, rfl, hc5⟩ := Sep.form (Sep.p1 hs7)
      refine ⟨fun u w' => ∃ (k : Nat) (h' : VW 8), k ≤ pad.length ∧ k % 64 = 0 ∧ foldM h.1 pad = foldM h'.1 (pad.drop k) ∧ Rest (.slice a5 pad.length c5) pad u (pad.drop k) ∧ Sep w0 w' (wa g4 h'.1 T_a8_uint32 :: ownB (.slice a5 pad.length c5) pad :: Bs), fun u _ => match u with
        | .slice _ n _ => n
        | _ => 0, ⟨0, h, by omega, rfl, rfl, Rest.start hc5, hs7⟩, ?_⟩
      rintro u w9 ⟨k, h', hk, hkm, hf, hrest, hs8⟩ -
      simp only [hrest.len, List.length_drop]
      rw [bi_gtr, cnd_bool]
      refine ⟨fun hlt => ?_, fun hlt => ?_⟩
      · have h64 : 64 ≤ (pad.drop k).length := by simp at hlt ⊢; omega
        refine drH_s hs8 fun w10 hs9 _ => ?_
        simp only [fx, Nat.reduceAdd, forall_const, rdS_ldN]
        rw [ldN_w hs9.blk h'.2]
        refine hrest.to h64 _ fun y hy => ?_
        refine efC_cal (cal_i (mixed_spec (hc.fr hs9.fr0) (hy _ (Sep.rd hs9.p1)) (by rw [List.length_take]; omega) h'.2) ?_)
        rintro _ w11 ⟨rfl, hf11⟩
        have hs10 := hs9.old hf11
        have hml := mixM_len ((pad.drop k).take 64) h'.2
        refine efC_stN (stN_w hs10 h'.2 hml fun w12 hs11 => ?_)
        refine hrest.from h64 _ fun u' hu' => ?_
        rw [List.drop_drop] at hu'
        have hll : k + 64 ≤ pad.length := by simp at h64; omega
        refine ⟨⟨k + 64, ⟨_, hml⟩, hll, by omega, ?_, hu', hs11⟩, ?_⟩
        · rw [hf, foldM_step h64, List.drop_drop]
        · obtain ⟨_, n1, _, rfl, e1, _⟩ := hrest
          obtain ⟨_, n2, _, rfl, e2, _⟩ := hu'
          simp only [List.length_drop] at e1 e2
          simp only []
          omega
      · have hge : k = pad.length := by simp at hlt; omega
        subst hge
        rw [List.drop_length, foldM_end (h := h'.1) (l := []) (by simp)] at hf
        rw [hf] at hR
        obtain ⟨o, ho⟩ : ∃ o, o = h'.1.flatMap wOut := ⟨_, rfl⟩
        have hol : o.length = 32 := by rw [ho, wOut_len, h'.2]
        rw [← ho] at hR
        rw [ldN_w hs8.blk h'.2]
        have hs9 : Sep w0 w9 (blk g3 (Rdr.cells (rVec 32) (vz 32)).toArray T_api_ID :: blk g2 (Rdr.cells (rVec 32) (vz 32)).toArray T_api_ID :: st g h s n :: ownB s r :: As) := by
          have := hs8.tail.tail
          rw [hBs] at this
          exact this
        have e0 : bvs (part o (4 * 0)) = Rdr.cells (rVec 32) (vz 32) := by rw [Nat.mul_zero, part_zero, hol]; rfl
        refine ⟨fun a w' => ∃ i : Nat, a = .int .i64 i ∧ i ≤ 8 ∧ Sep w0 w' (blk g3 (bvs (part o (4 * i))).toArray T_api_ID :: blk g2 (Rdr.cells (rVec 32) (vz 32)).toArray T_api_ID :: st g h s n :: ownB s r :: As),
          fun z _ => (8 - RowKit.intOf z).toNat, ⟨0, rfl, by omega, by rw [e0]; exact hs9⟩, ?_⟩
        rintro _ w10 ⟨i, rfl, hi, hs10⟩ -
        simp only [fx, Nat.reduceAdd, forall_const]
        rw [cnd_bool]
        refine ⟨fun hlt => ?_, fun hlt => ?_⟩
        · have h8 : i < 8 := by simp at hlt; omega
          have ei : IntKind.i64.wrap (4 * (i : Int)) = ((4 * i : Nat) : Int) := by rw [wi64 (by omega) (by omega)]; omega
          have e1 : IntKind.i64.wrap (((4 * i : Nat) : Int) + 1) = ((4 * i + 1 : Nat) : Int) := by rw [wi64 (by omega) (by omega)]; omega
          have e2 : IntKind.i64.wrap (((4 * i : Nat) : Int) + 2) = ((4 * i + 2 : Nat) : Int) := by rw [wi64 (by omega) (by omega)]; omega
          have e3 : IntKind.i64.wrap (((4 * i : Nat) : Int) + 3) = ((4 * i + 3 : Nat) : Int) := by rw [wi64 (by omega) (by omega)]; omega
          have hg : ∀ m : Nat, m < 4 → o[4 * i + m]? = some (UInt8.ofNat ((h'.1.getD i 0) >>> (24 - 8 * m)).toNat) := fun m hm => by
            have h8' := h'.2
            rw [ho, wOut_get (by omega), show (4 * i + m) / 4 = i by omega, show (4 * i + m) % 4 = m by omega]
          rw [ixv_w .i64 h'.2 h8, ei, e1, e2, e3, shr_l _ .u64 24 (by decide) (by decide), w_b, shr_l _ .u64 16 (by decide) (by decide), w_b, shr_l _ .u64 8 (by decide) (by decide), w_b, w_b]
          rw [ixa_w .i64 (by omega)]
          refine st_b hs10 (hg 0 (by decide)) fun w11 hs11 => ?_
          rw [ixa_w .i64 (by omega)]
          refine st_b hs11 (hg 1 (by decide)) fun w12 hs12 => ?_
          rw [ixa_w .i64 (by omega)]
          refine st_b hs12 (hg 2 (by decide)) fun w13 hs13 => ?_
          rw [ixa_w .i64 (by omega)]
          refine st_b hs13 (hg 3 (by decide)) fun w14 hs14 => ?_
          rw [wi64 (by omega) (by omega)]
          exact ⟨⟨i + 1, by simp, by omega, hs14⟩, by simp [RowKit.intOf]; omega⟩
        · have h8 : i = 8 := by simp at hlt; omega
          subst h8
          have e2 : bvs (part o (4 * 8)) = Rdr.cells (rVec 32) ⟨o, hol⟩ := by
            rw [show 4 * 8 = o.length by omega, part_all]
            rfl
          rw [e2] at hs10
          simp only [L_api_ID hs10.blk]
          refine St_api_ID hs10.p1 fun w15 hs15 => ?_
          simp only [L_api_ID hs15.blk]
          exact hR _ _ ⟨rfl, hs15.d1.tail⟩
/-- The program's sum is the plain one. -/
theorem shaSum_spec (hc : Cub w) (hb : RdB w.heap b l) (hl : l.length ≤ 100000) : cal P f_sha_Sum [b] w fun v w' => v = .agg (Rdr.cells (rVec 32) (shaM l)).toArray ∧ Fr [] w w' := by
  refine s_sha_Sum fun R hR => ?_
  unfold c_sha_Sum
  refine alloc_s (Sep.start w) (A_api_ID w) fun g2 w1 hs => ?_
  refine cal_i New_spec ?_
  rintro _ w2 ⟨g, rfl, hs1⟩
  replace hs1 := hs.join hs1
  have hbs : ∀ (w : World), (Instr.buildSlice T_sl_sl_uint8 1 #[(0, b)]).run P w = .ok (.slice (some ⟨w.heap.size, 0, none⟩) 1 1) (w.alloc (.cells ([b] : List Value).toArray T_sl_uint8)) := by
    obtain ⟨a, c, rfl, _⟩ := hb
    intro w
    kernel_rfl
  refine build_s (cs := [b]) (size := 1) hs1 rfl (hbs _) fun g3 w3 hs3 => ?_
  refine cal_i (Write_spec hc (Sep.p1 hs3) (.inr ⟨_, rfl⟩) hb hl) ?_
  rintro _ w4 ⟨a, r, h, s, rfl, ha, hr, hh, hs4⟩
  refine cal_i (Sum_spec (n := (a ++ r).length) hc hs4 hr hl) ?_
  rintro _ w5 ⟨rfl, hs5⟩
  have e : foldM h.1 (padT r (a ++ r).length) = shaL (a ++ r) := by rw [shaL, padT_app _ _ _ ha, foldM_app ha, hh]
  have e2 : bvs ((foldM h.1 (padT r (a ++ r).length)).flatMap wOut) = Rdr.cells (rVec 32) (shaM (a ++ r)) := by rw [e]; rfl
  rw [e2]
  refine St_api_ID (Sep.p3 hs5) fun w6 hs6 => ?_
  simp only [L_api_ID hs6.blk]
  exact hR _ _ ⟨rfl, hs6.fr0⟩
end
end Go.Fx
set_option linter.unusedVariables false
set_option linter.unusedSimpArgs false
namespace Go.Fx
structure Blk where
  p : Vec 32
  h : Int
  d : List UInt8
deriving DecidableEq
def Blk.none : Blk := ⟨vz 32, 0, []⟩
def Blk.chk (b : Blk) : Int := if b.h < 0 ∨ 200 < b.d.length ∨ (b.h = 0 ∧ b.p ≠ vz 32) then 30 else 0
theorem Blk.chk_or (b : Blk) : b.chk = 0 ∨ b.chk = 30 := by unfold Blk.chk; split <;> simp
theorem Blk.chk_ok {b : Blk} (h : b.chk = 0) : 0 ≤ b.h ∧ b.d.length ≤ 200 ∧ (b.h = 0 → b.p = vz 32) := by
  unfold Blk.chk at h
  split at h
  · cases h
  · rename_i hn
    refine ⟨by omega, by omega, fun h0 => ?_⟩
    by_cases hp : b.p = vz 32
    · exact hp
    · exact absurd (.inr (.inr ⟨h0, hp⟩)) hn
/-- A block as a value: its data stand where v says. -/
abbrev bq (b : Blk) (v : Value) : Value := .agg (Rdr.cells Q_api_Block (b.p, b.h, v)).toArray
abbrev bb (g : Nat) (b : Blk) (v : Value) : Asn := blk g (Rdr.cells Q_api_Block (b.p, b.h, v)).toArray T_api_Block
theorem B_ID0 {w : World} (K : Value → Prop) : rdP P (Instr.build T_api_ID #[]) w K = K (.agg (Rdr.cells (rVec 32) (vz 32)).toArray) := rdP_eq (by kernel_rfl) K
theorem bxQ {w0 w : World} {As : List Asn} {t : TypeId} {cs : Array Value} {K : Value → World → Prop} (hs : Sep w0 w As) (h : ∀ g w', Sep w0 w' (blk g cs t :: As) → K (.pointer (some ⟨g, 0, .none⟩)) w') : bx t (.agg cs) w K := bx_s hs fun g w' hs' => h g w' hs'
theorem RdB.one {h : Heap} {v : Value} {l : List UInt8} (hr : RdB h v l) : v.oneCell' = true := by obtain ⟨a, c, rfl⟩ := hr.form; rfl
section
variable {w0 w : World} {As : List Asn} {v u : Value} {a b : Blk}
theorem Check_spec (hb : RdB w.heap v b.d) : cal P f_block_Check [bq b v] w fun r w' => r = .int .i64 b.chk ∧ Fr [] w w' := by
  refine s_block_Check fun R hR => ?_
  unfold c_block_Check
  refine bxQ (Sep.start w) fun g w1 hs => ?_
  have hl := (hs.rdB hb).len
  have hf := hs.fr0
  have fin : ∀ c : Int, b.chk = c → R (.int .i64 c) w1 := fun c hc => hR _ _ ⟨by rw [hc], hf⟩
  by_cases h : b.h < 0
  · simp only [h, decide_true, fx, Nat.reduceAdd, forall_const, L_api_Block hs.blk, L_api_Block__Parent hs.blk, L_api_Block__Height hs.blk, L_api_Block__Data hs.blk]
    exact fin 30 (by simp [Blk.chk, h])
  · by_cases h2 : 200 < b.d.length
    · have e : decide ((200 : Int) < b.d.length) = true := by simp; omega
      simp only [h, decide_false, e, hl, fx, Nat.reduceAdd, forall_const, L_api_Block hs.blk, L_api_Block__Parent hs.blk, L_api_Block__Height hs.blk, L_api_Block__Data hs.blk]
      exact fin 30 (by simp [Blk.chk, h2])
    · have e : decide ((200 : Int) < b.d.length) = false := by simp; omega
      by_cases h0 : b.h = 0
      · simp only [h, decide_false, e, hl, fx, Nat.reduceAdd, forall_const, L_api_Block hs.blk, L_api_Block__Parent hs.blk, L_api_Block__Height hs.blk, L_api_Block__Data hs.blk, B_ID0, ne_api_ID, h0, show ((0 : Int) == 0) = true from rfl, show decide ((0 : Int) < 0) = false from rfl]
        rw [cnd_bool]
        refine ⟨fun h3 => fin 30 ?_, fun h3 => fin 0 ?_⟩
        · have h3 : b.p ≠ vz 32 := by simpa using h3
          simp [Blk.chk, h0, h3]
        · have h3 : b.p = vz 32 := by simpa using h3
          unfold Blk.chk
          rw [if_neg (by rw [h3]; simp; omega)]
      · have he : (b.h == 0) = false := by simpa using h0
        simp only [h, decide_false, e, hl, fx, Nat.reduceAdd, forall_const, L_api_Block hs.blk, L_api_Block__Parent hs.blk, L_api_Block__Height hs.blk, L_api_Block__Data hs.blk, he]
        refine fin 0 ?_
        unfold Blk.chk
        rw [if_neg (by simp [h0]; omega)]
theorem bkClone_spec (hb : RdB w.heap v b.d) (hl : b.d.length ≤ 140737488355328) : cal P f_block_Clone [bq b v] w fun r w' => ∃ v', r = bq b v' ∧ Sep w w' [ownB v' b.d] := by
  refine s_block_Clone fun R hR => ?_
  unfold c_block_Clone
  refine bxQ (Sep.start w) fun g w1 hs => ?_
  refine alloc_s hs (A_api_Block w1) fun g2 w2 hs2 => ?_
  simp only [fx, Nat.reduceAdd, forall_const, L_api_Block (Sep.p1 hs2).blk, L_api_Block__Parent (Sep.p1 hs2).blk, L_api_Block__Height (Sep.p1 hs2).blk, L_api_Block__Data (Sep.p1 hs2).blk]
  refine cal_i (bClone_spec (hs2.rdB hb) hl) ?_
  rintro v' w3 hs3
  replace hs3 := (hs2.join hs3).p2
  refine St_api_Block__Data hs3 (Sep.one hs3.p1) fun w4 hs4 => ?_
  simp only [L_api_Block hs4.blk, L_api_Block__Parent hs4.blk, L_api_Block__Height hs4.blk, L_api_Block__Data hs4.blk]
  refine St_api_Block hs4.p2 (one_api_Block (Sep.one hs4.p1)) fun w5 hs5 => ?_
  simp only [L_api_Block hs5.blk, L_api_Block__Parent hs5.blk, L_api_Block__Height hs5.blk, L_api_Block__Data hs5.blk]
  exact hR _ _ ⟨v', rfl, hs5.d1.tail⟩
/-- A block, if it may be. -/
def Blk.mk' (b : Blk) : Blk := if b.chk = 0 then b else Blk.none
theorem made_spec (hb : RdB w.heap v b.d) : cal P f_block_made [bq b v] w fun r w' => ∃ v', r = .tuple #[bq b.mk' v', .int .i64 b.chk] ∧ Sep w w' [ownB v' b.mk'.d] := by
  refine s_block_made fun R hR => ?_
  unfold c_block_made
  refine bxQ (Sep.start w) fun g w1 hs => ?_
  refine alloc_s hs (A_api_Block w1) fun g2 w2 hs2 => ?_
  simp only [fx, Nat.reduceAdd, forall_const, L_api_Block (Sep.p1 hs2).blk, L_api_Block__Parent (Sep.p1 hs2).blk, L_api_Block__Height (Sep.p1 hs2).blk, L_api_Block__Data (Sep.p1 hs2).blk]
  refine cal_i (Check_spec (hs2.rdB hb)) ?_
  rintro _ w3 ⟨rfl, hf3⟩
  have hs3 := hs2.old hf3
  rw [bi_neq]
  rcases Blk.chk_or b with h0 | h0
  · have hck := Blk.chk_ok h0
    have hm : b.mk' = b := by rw [Blk.mk', if_pos h0]
    rw [hm, h0] at hR
    simp only [h0, fx, Nat.reduceAdd, forall_const, L_api_Block (Sep.p1 hs3).blk, L_api_Block__Parent (Sep.p1 hs3).blk, L_api_Block__Height (Sep.p1 hs3).blk, L_api_Block__Data (Sep.p1 hs3).blk, show ((0 : Int) != 0) = false from rfl]
    refine cal_i (bkClone_spec (hs3.rdB hb) (by omega)) ?_
    rintro _ w4 ⟨v', rfl, hs4⟩
    replace hs4 := (hs3.join hs4).p1
    refine St_api_Block hs4 (one_api_Block (Sep.one hs4.p1)) fun w5 hs5 => ?_
    simp only [L_api_Block hs5.blk, L_api_Block__Parent hs5.blk, L_api_Block__Height hs5.blk, L_api_Block__Data hs5.blk]
    exact hR _ _ ⟨v', rfl, hs5.d2.tail⟩
  · have hm : b.mk' = Blk.none := by rw [Blk.mk', if_neg (by omega)]
    rw [hm, h0] at hR
    simp only [h0, fx, Nat.reduceAdd, forall_const, B_api_Block, show ((30 : Int) != 0) = true from rfl]
    refine St_api_Block hs3 (one_api_Block rfl) fun w5 hs5 => ?_
    simp only [L_api_Block hs5.blk, L_api_Block__Parent hs5.blk, L_api_Block__Height hs5.blk, L_api_Block__Data hs5.blk]
    exact hR _ _ ⟨_, rfl, hs5.d1.tail.nil⟩
def Blk.first (d : List UInt8) : Blk := ⟨vz 32, 0, d⟩
theorem First_spec {l : List UInt8} (hb : RdB w.heap v l) : cal P f_block_First [v] w fun r w' => ∃ v', r = .tuple #[bq (Blk.first l).mk' v', .int .i64 (Blk.first l).chk] ∧ Sep w w' [ownB v' (Blk.first l).mk'.d] := by
  refine s_block_First fun R hR => ?_
  unfold c_block_First
  refine alloc_s (Sep.start w) (A_api_Block w) fun g2 w2 hs2 => ?_
  rw [B_api_Block_2 hb.one]
  obtain ⟨b, hbb⟩ : ∃ b, b = Blk.first l := ⟨_, rfl⟩
  have e : Value.agg (Rdr.cells Q_api_Block (vz 32, (0 : Int), v)).toArray = bq b v := by rw [hbb]; rfl
  have hd : b.d = l := by rw [hbb]; rfl
  rw [← hbb] at hR
  rw [e]
  refine cal_i (made_spec (b := b) (by rw [hd]; exact hs2.rdB hb)) ?_
  rintro _ w3 ⟨v', rfl, hs3⟩
  replace hs3 := (hs2.join hs3).p1
  simp only [fx, Nat.reduceAdd, forall_const]
  refine St_api_Block hs3 (one_api_Block (Sep.one hs3.p1)) fun w5 hs5 => ?_
  simp only [L_api_Block hs5.blk, L_api_Block__Parent hs5.blk, L_api_Block__Height hs5.blk, L_api_Block__Data hs5.blk]
  exact hR _ _ ⟨v', rfl, hs5.tail⟩
end
end Go.Fx
set_option linter.unusedVariables false
set_option linter.unusedSimpArgs false
namespace Go.Fx
def Blk.bytes (b : Blk) : List UInt8 := [0, 0] ++ b.p.1 ++ be 8 b.h.toNat ++ be 4 b.d.length ++ b.d
theorem Blk.bytes_len (b : Blk) : b.bytes.length = 46 + b.d.length := by
  have := b.p.2
  simp [Blk.bytes, be_length, this]
  omega
def Blk.out (b : Blk) : List UInt8 := if b.chk = 0 then b.bytes else []
def Blk.id (b : Blk) : Vec 32 := shaM b.bytes
def Blk.name (b : Blk) : Vec 32 := if b.chk = 0 then b.id else vz 32
abbrev maxI : Int := 9223372036854775807
section
variable {w0 w : World} {As : List Asn} {v u : Value} {a b : Blk} {g : Nat}
theorem at_par (hs : Sep w0 w (bb g b v :: As)) : At w.heap g 0 (bvs b.p.1) := by
  have := (Fld.fst Fld.self : Fld Q_api_Block (rVec 32) 0 _ _).at (At.blk (cs := Rdr.cells Q_api_Block (b.p, b.h, v)) hs.blk)
  exact this
theorem rd_par (hs : Sep w0 w (bb g b v :: As)) (c : Nat) : RdB w.heap (.slice (some ⟨g, 0, none⟩) 32 c) b.p.1 := by
  have := At.rd (c := c) (at_par hs)
  rwa [b.p.2] at this
theorem u64_h {h : Int} (h0 : 0 ≤ h) (h1 : h ≤ maxI) : IntKind.u64.wrap h = (h.toNat : Int) := by
  unfold maxI at h1
  rw [wu64i h0 (by omega)]; omega
theorem bkBytes_spec (hb : RdB w.heap v b.d) (hh : b.h ≤ maxI) : cal P f_block_Bytes [bq b v] w fun r w' => ∃ s, r = .tuple #[s, .int .i64 b.chk] ∧ Sep w w' [ownB s b.out] := by
  refine s_block_Bytes fun R hR => ?_
  unfold c_block_Bytes
  refine bxQ (Sep.start w) fun g w1 hs => ?_
  simp only [L_api_Block hs.blk, L_api_Block__Parent hs.blk, L_api_Block__Height hs.blk, L_api_Block__Data hs.blk]
  refine cal_i (Check_spec (hs.rdB hb)) ?_
  rintro _ w2 ⟨rfl, hf2⟩
  have hs2 := hs.old hf2
  rw [bi_neq]
  rcases Blk.chk_or b with h0 | h0
  · have hck := Blk.chk_ok h0
    have ho : b.out = b.bytes := by rw [Blk.out, if_pos h0]
    rw [ho, h0] at hR
    simp only [h0, fx, Nat.reduceAdd, forall_const, show ((0 : Int) != 0) = false from rfl]
    refine cal_i (NewS 246 (by omega)) ?_
    rintro _ w3 ⟨gp, rfl, hs3⟩
    replace hs3 := hs2.join hs3
    refine cal_i (ShortS hs3 (v := 0) (by omega) (by omega) (by simp)) ?_
    rintro _ w4 ⟨rfl, s4, hs4⟩
    rw [sla_all]
    refine cal_i (FixedS hs4 (c := b.p.1) (by omega) (fun z hz => rd_par hz 32) (by simp [be_length, b.p.2])) ?_
    rintro _ w5 ⟨rfl, s5, hs5⟩
    simp only [fx, Nat.reduceAdd, forall_const, L_api_Block (Sep.p2 hs5).blk, L_api_Block__Parent (Sep.p2 hs5).blk, L_api_Block__Height (Sep.p2 hs5).blk, L_api_Block__Data (Sep.p2 hs5).blk, u64_h hck.1 hh]
    refine cal_i (LongS hs5 (by omega) (by unfold maxI at hh; omega) (by simp [be_length, b.p.2])) ?_
    rintro _ w6 ⟨rfl, s6, hs6⟩
    simp only [fx, Nat.reduceAdd, forall_const, L_api_Block (Sep.p2 hs6).blk, L_api_Block__Parent (Sep.p2 hs6).blk, L_api_Block__Height (Sep.p2 hs6).blk, L_api_Block__Data (Sep.p2 hs6).blk]
    refine cal_i (BytesS hs6 (by omega) (fun z hz => hz.rdB hb) (by simp [be_length, b.p.2]; omega)) ?_
    rintro _ w7 ⟨rfl, s7, hs7⟩
    refine cal_i (OutS hs7 (by simp [be_length, b.p.2]; omega)) ?_
    rintro _ w8 ⟨r, rfl, hs8⟩
    simp only [fx, Nat.reduceAdd, forall_const]
    have e : [] ++ be 2 0 ++ b.p.1 ++ be 8 b.h.toNat ++ (be 4 b.d.length ++ b.d) = b.bytes := by
      simp [Blk.bytes, be]
    rw [e] at hs8
    exact hR _ _ ⟨r, rfl, hs8.d1.d1.d1⟩
  · have ho : b.out = [] := by rw [Blk.out, if_neg (by omega)]
    rw [ho, h0] at hR
    simp only [h0, fx, Nat.reduceAdd, forall_const, show ((30 : Int) != 0) = true from rfl]
    exact hR _ _ ⟨_, rfl, hs2.tail.nil⟩
theorem bkID_spec (hc : Cub w) (hb : RdB w.heap v b.d) (hh : b.h ≤ maxI) : cal P f_block_ID [bq b v] w fun r w' => r = .tuple #[.agg (Rdr.cells (rVec 32) b.name).toArray, .int .i64 b.chk] ∧ Fr [] w w' := by
  refine s_block_ID fun R hR => ?_
  unfold c_block_ID
  refine bxQ (Sep.start w) fun g w1 hs => ?_
  refine alloc_s hs (A_api_ID w1) fun g2 w2 hs2 => ?_
  simp only [L_api_Block (Sep.p1 hs2).blk, L_api_Block__Parent (Sep.p1 hs2).blk, L_api_Block__Height (Sep.p1 hs2).blk, L_api_Block__Data (Sep.p1 hs2).blk]
  refine cal_i (bkBytes_spec (hs2.rdB hb) hh) ?_
  rintro _ w3 ⟨s, rfl, hs3⟩
  replace hs3 := hs2.join hs3
  simp only [fx, Nat.reduceAdd, forall_const]
  rcases Blk.chk_or b with h0 | h0
  · have hck := Blk.chk_ok h0
    have ho : b.out = b.bytes := by rw [Blk.out, if_pos h0]
    have hn : b.name = shaM b.bytes := by rw [Blk.name, if_pos h0, Blk.id]
    rw [ho] at hs3
    rw [hn, h0] at hR
    simp only [h0, fx, Nat.reduceAdd, forall_const, show ((0 : Int) != 0) = false from rfl]
    refine cal_i (shaSum_spec (hc.fr hs3.fr0) (Sep.rd hs3) (by rw [Blk.bytes_len]; omega)) ?_
    rintro _ w4 ⟨rfl, hf4⟩
    have hs4 := (hs3.old hf4).p1
    refine St_api_ID hs4 fun w5 hs5 => ?_
    simp only [L_api_ID hs5.blk]
    exact hR _ _ ⟨rfl, hs5.fr0⟩
  · have hn : b.name = vz 32 := by rw [Blk.name, if_neg (by omega)]
    rw [hn, h0] at hR
    simp only [h0, fx, Nat.reduceAdd, forall_const, B_ID0, show ((30 : Int) != 0) = true from rfl]
    refine St_api_ID hs3.p1 fun w5 hs5 => ?_
    simp only [L_api_ID hs5.blk]
    exact hR _ _ ⟨rfl, hs5.fr0⟩
end
end Go.Fx
set_option linter.unusedVariables false
set_option linter.unusedSimpArgs false
namespace Go.Fx
def Blk.kid (b : Blk) (d : List UInt8) : Blk := ⟨b.id, b.h + 1, d⟩
def Blk.kidOk (b : Blk) (d : List UInt8) : Prop := b.chk = 0 ∧ b.h ≠ maxI ∧ d.length ≤ 200
instance (b : Blk) (d : List UInt8) : Decidable (b.kidOk d) := by unfold Blk.kidOk; infer_instance
def Blk.child (b : Blk) (d : List UInt8) : Blk := if b.kidOk d then b.kid d else Blk.none
def Blk.childE (b : Blk) (d : List UInt8) : Int := if b.kidOk d then 0 else 30
theorem Blk.kid_chk {b : Blk} {d : List UInt8} (h : 0 ≤ b.h) : (b.kid d).chk = if 200 < d.length then 30 else 0 := by
  unfold Blk.chk Blk.kid
  by_cases hd : 200 < d.length
  · rw [if_pos (.inr (.inl hd)), if_pos hd]
  · rw [if_neg (by simp; omega), if_neg hd]
section
variable {w0 w : World} {As : List Asn} {v u : Value} {a b : Blk} {g : Nat} {d : List UInt8}
theorem Child_spec (hc : Cub w) (hb : RdB w.heap v b.d) (hd : RdB w.heap u d) (hh : b.h ≤ maxI) : cal P f_block_Child [bq b v, u] w fun r w' => ∃ v', r = .tuple #[bq (b.child d) v', .int .i64 (b.childE d)] ∧ Sep w w' [ownB v' (b.child d).d] := by
  refine s_block_Child fun R hR => ?_
  unfold c_block_Child
  refine bxQ (Sep.start w) fun g w1 hs => ?_
  refine alloc_s hs (A_api_Block w1) fun g2 w2 hs2 => ?_
  simp only [L_api_Block (Sep.p1 hs2).blk, L_api_Block__Parent (Sep.p1 hs2).blk, L_api_Block__Height (Sep.p1 hs2).blk, L_api_Block__Data (Sep.p1 hs2).blk]
  refine cal_i (bkID_spec (hc.fr hs2.fr0) (hs2.rdB hb) hh) ?_
  rintro _ w3 ⟨rfl, hf3⟩
  have hs3 := hs2.old hf3
  simp only [fx, Nat.reduceAdd, forall_const]
  refine alloc_s hs3 (A_api_ID w3) fun g4 w4 hs4 => ?_
  refine St_api_ID hs4 fun w5 hs5 => ?_
  have bad : ¬ b.kidOk d → stN 34 (.pointer (some ⟨g2, 0, none⟩)) (bq Blk.none (.slice none 0 0)) w5 fun w => ldN 34 (.pointer (some ⟨g2, 0, none⟩)) w.heap fun r1 => R (.tuple #[r1, .int .i64 30]) w := fun hn => by
    rw [Blk.child, Blk.childE, if_neg hn, if_neg hn] at hR
    refine St_api_Block hs5.p1 (one_api_Block rfl) fun w6 hs6 => ?_
    simp only [L_api_Block hs6.blk, L_api_Block__Parent hs6.blk, L_api_Block__Height hs6.blk, L_api_Block__Data hs6.blk]
    exact hR _ _ ⟨_, rfl, hs6.tail.tail.tail.nil⟩
  rcases Blk.chk_or b with h0 | h0
  · have hck := Blk.chk_ok h0
    by_cases hm : b.h = maxI
    · have e : (b.h == 9223372036854775807) = true := by simpa using hm
      simp only [h0, e, fx, Nat.reduceAdd, forall_const, L_api_Block (Sep.p2 hs5).blk, L_api_Block__Parent (Sep.p2 hs5).blk, L_api_Block__Height (Sep.p2 hs5).blk, L_api_Block__Data (Sep.p2 hs5).blk, B_api_Block, show ((0 : Int) != 0) = false from rfl]
      exact bad fun hk => hk.2.1 hm
    · have e : (b.h == 9223372036854775807) = false := by simpa using hm
      have hn : b.name = b.id := by rw [Blk.name, if_pos h0]
      have hlt : b.h < 9223372036854775807 := by unfold maxI at hh hm; omega
      simp only [h0, e, fx, Nat.reduceAdd, forall_const, L_api_Block (Sep.p2 hs5).blk, L_api_Block__Parent (Sep.p2 hs5).blk, L_api_Block__Height (Sep.p2 hs5).blk, L_api_Block__Data (Sep.p2 hs5).blk, L_api_ID hs5.blk, show ((0 : Int) != 0) = false from rfl]
      rw [wi64 (by omega) (by omega), B_api_Block_0_1_2 hd.one, hn]
      have hkc := Blk.kid_chk (d := d) hck.1
      have ek : Value.agg (Rdr.cells Q_api_Block (b.id, b.h + 1, u)).toArray = bq (b.kid d) u := rfl
      have hkd : (b.kid d).d = d := rfl
      obtain ⟨k, hk⟩ : ∃ k, k = b.kid d := ⟨_, rfl⟩
      rw [ek, ← hk]
      rw [← hk] at hkc hkd
      refine cal_i (made_spec (b := k) (by rw [hkd]; exact hs5.rdB hd)) ?_
      rintro _ w6 ⟨v', rfl, hs6⟩
      replace hs6 := (hs5.join hs6).p2
      simp only [fx, Nat.reduceAdd, forall_const]
      refine St_api_Block hs6 (one_api_Block (Sep.one hs6.p1)) fun w7 hs7 => ?_
      simp only [L_api_Block hs7.blk, L_api_Block__Parent hs7.blk, L_api_Block__Height hs7.blk, L_api_Block__Data hs7.blk]
      refine hR _ _ ⟨v', ?_, ?_⟩
      · by_cases h2 : 200 < d.length
        · rw [if_pos h2] at hkc
          rw [Blk.mk', Blk.child, Blk.childE, if_neg (by omega), if_neg (fun hk => by have := hk.2.2; omega), if_neg (fun hk => by have := hk.2.2; omega), hkc]
        · rw [if_neg h2] at hkc
          rw [Blk.mk', Blk.child, Blk.childE, if_pos hkc, if_pos ⟨h0, hm, by omega⟩, if_pos ⟨h0, hm, by omega⟩, hk]
          rw [hk] at hkc
          rw [hkc]
      · have : k.mk' = b.child d := by
          by_cases h2 : 200 < d.length
          · rw [if_pos h2] at hkc
            rw [Blk.mk', Blk.child, if_neg (by omega), if_neg (fun hk => by have := hk.2.2; omega)]
          · rw [if_neg h2] at hkc
            rw [Blk.mk', Blk.child, if_pos hkc, if_pos ⟨h0, hm, by omega⟩, hk]
        rw [← this]
        exact hs7.p1.d1.d1.d1
  · simp only [h0, fx, Nat.reduceAdd, forall_const, B_api_Block, show ((30 : Int) != 0) = true from rfl]
    exact bad fun hk => by have := hk.1; omega
end
end Go.Fx
set_option linter.unusedVariables false
set_option linter.unusedSimpArgs false
namespace Go.Fx
def vec32 (l : List UInt8) : Vec 32 := ⟨(l ++ List.replicate 32 0).take 32, by simp⟩
def parB (l : List UInt8) : Blk := ⟨vec32 (l.drop 2), ofBe ((l.drop 34).take 8), l.drop 46⟩
def okP (l : List UInt8) : Prop := 46 ≤ l.length ∧ (parB l).h ≤ maxI ∧ (parB l).chk = 0 ∧ (parB l).bytes = l
instance (l : List UInt8) : Decidable (okP l) := by unfold okP; infer_instance
theorem okP.len {l : List UInt8} (h : okP l) : l.length ≤ 246 := by
  have := (Blk.chk_ok h.2.2.1).2.1
  have hb := congrArg List.length h.2.2.2
  rw [Blk.bytes_len] at hb
  omega
section
variable {w0 w : World} {As : List Asn} {g o n n' : Nat} {cur : Array Value} {T : TypeId} {x : Value} {m : List UInt8}
end
end Go.Fx
set_option linter.unusedVariables false
set_option linter.unusedSimpArgs false
namespace Go.Fx
end Go.Fx
set_option linter.unusedVariables false
set_option linter.unusedSimpArgs false
namespace Go.Fx
end Go.Fx
set_option linter.unusedVariables false
set_option linter.unusedSimpArgs false
namespace Go.Fx
abbrev BV := Blk × Value
def BV.t (x : BV) : Vec 32 × Int × Value := (x.1.p, x.1.h, x.2)
/-- A slice of blocks, each with what its data read as. -/
def BRows (h : Heap) (v : Value) (l : List BV) : Prop := Rows' Q_api_Block h v (l.map BV.t) ∧ ∀ x ∈ l, RdB h x.2 x.1.d
theorem BRows.fr {w w' : World} {v : Value} {l : List BV} (h : BRows w.heap v l) (hf : Fr [] w w') : BRows w'.heap v l := ⟨h.1.fr hf, fun x hx => (h.2 x hx).fr hf (off_nil _)⟩
theorem BRows.len {h : Heap} {v : Value} {l : List BV} (hr : BRows h v l) (K : Value → Prop) : lenS v K = K (.int .i64 l.length) := by
  have := hr.1.len K
  rwa [List.length_map] at this
section
variable {w0 w : World} {As : List Asn} {v : Value}
def ga : Blk := Blk.first [103]
end
end Go.Fx
set_option linter.unusedVariables false
set_option linter.unusedSimpArgs false
namespace Go.Fx
/-- An entry: its key, its value, and when it came. -/
abbrev Ent (n : Nat) := Vec n × Value × Nat
abbrev kv {n : Nat} (k : Vec n) : Value := .agg (Rdr.cells (rVec n) k).toArray
def entM {n : Nat} (x : Ent n) : MapEntry := { key := kv x.1, val := x.2.1, born := x.2.2 }
def ents {n : Nat} (l : List (Ent n)) : Array MapEntry := (l.map entM).toArray
/-- Where a key stands, and what it has. -/
def findE {n : Nat} (k : Vec n) : List (Ent n) → Nat → Option (Nat × Value)
  | [], _ => none
  | x :: l, i => if k = x.1 then some (i, x.2.1) else findE k l (i + 1)
/-- The facts on a type of keys. -/
structure KeyT (P : Program) (T E n : Nat) : Prop where
  und : P.underlying T = some (.array n E)
  el : P.underlying E = some (.int .u8)
  siz : size? P E = some 1
  agg : aggr P E = some false
  eq : EqT P T (rVec n) true 2
section
variable {P : Program} {T E n : Nat} {w : World}
theorem run_key (hT : KeyT P T E n) (k : Vec n) (b : Bool) (d : Nat) : (Instr.checkKey b (d + 2) T (kv k)).run P w = .ok () w := by
  rw [show d + 2 = (d + 1) + 1 from rfl, Instr.checkKey]
  simp only [Sem.run_bind, run_underlying hT.und, Result.andThen_ok]
  simp only [Std.Legacy.Range.forIn_eq_forIn_range', Std.Legacy.Range.size, Nat.sub_zero, Nat.add_one_sub_one, Nat.div_one]
  have each : ∀ j ∈ List.range' 0 n, j < n := fun j hj => by simpa using hj
  generalize List.range' 0 n = is at each
  induction is with
  | nil => simp
  | cons j is ih =>
    have hj := each j (by simp)
    have hv : (Rdr.cells (rVec n) k).toArray[j]? = some (bv (k.1[j]'(by rw [k.2]; exact hj))) := by
      show (bvs k.1).toArray[j]? = _
      rw [List.getElem?_toArray]
      unfold bvs
      rw [List.getElem?_map, List.getElem?_eq_getElem (by rw [k.2]; exact hj)]
      rfl
    have p1 : (Go.part E (Rdr.cells (rVec n) k).toArray (j * 1)).run P w = .ok (bv (k.1[j]'(by rw [k.2]; exact hj))) w := by
      unfold Go.part
      simp [run_isAgg hT.agg, hv]
    have p2 : (Instr.checkKey b (d + 1) E (bv (k.1[j]'(by rw [k.2]; exact hj)))).run P w = .ok () w := by
      rw [Instr.checkKey]
      simp [run_underlying hT.el, bv]
    simp only [List.forIn_cons, Sem.run_bind, run_sizeOf hT.siz, Result.andThen_ok, p1, p2, Sem.run_pure]
    exact ih fun y hy => each y (by simp [hy])
theorem run_keyEq (hT : KeyT P T E n) (a b : Vec n) : (Op.equal T (kv a) (kv b)).run P w = .ok (decide (a = b)) w := hT.eq.eq 10000 (by decide) w a b
theorem run_find (hT : KeyT P T E n) (k : Vec n) : ∀ (l : List (Ent n)) (i : Nat), (Instr.findAsking T (kv k) (l.map entM) i).run P w = .ok (findE k l i) w
  | [], i => by simp [Instr.findAsking, findE]
  | x :: l, i => by
    rw [List.map_cons, Instr.findAsking]
    have h := run_keyEq (w := w) hT k x.1
    simp only [Sem.run_bind]
    rw [show (entM x).key = kv x.1 from rfl, h]
    simp only [Result.andThen_ok, findE]
    by_cases hk : k = x.1
    · simp [hk, entM]
    · simp only [hk, decide_false, Bool.false_eq_true, if_false]
      exact run_find hT k l (i + 1)
theorem run_findKey (hT : KeyT P T E n) (k : Vec n) (l : List (Ent n)) : (Instr.findKey T (kv k) (ents l).toList).run P w = .ok (findE k l 0) w := by
  rw [run_findKey_eq w (by rw [hT.und])]
  exact run_find hT k l 0
theorem get_map {g c : Nat} {es : Array MapEntry} (hg : w.heap[g]? = some (.map es c)) : (getObj g).run P w = .ok (.map es c) w := by simp [getObj, Sem.run, hg]
theorem set_map {g c : Nat} {es : Array MapEntry} (o : Obj) (hg : w.heap[g]? = some (.map es c)) : (setObj g o).run P w = .ok () (setBlk w g o) := by simp [setObj, Sem.run, hg, setBlk]
/-- What a key has. -/
def getE (k : Vec n) (l : List (Ent n)) : Option Value := (l.find? fun x => decide (k = x.1)).map (·.2.1)
theorem findE_get (k : Vec n) : ∀ (l : List (Ent n)) (i : Nat), (findE k l i).map (·.2) = getE k l
  | [], i => rfl
  | x :: l, i => by
    unfold findE getE
    by_cases h : k = x.1
    · simp [h]
    · simp only [h, if_false, List.find?_cons, decide_false]
      exact findE_get k l (i + 1)
theorem lookup_map {M V g c : Nat} {l : List (Ent n)} {z : Value} (hM : P.underlying M = some (.map T V)) (hT : KeyT P T E n) (hz : (zeroValue V).run P w = .ok z w) (hg : w.heap[g]? = some (.map (ents l) c)) (k : Vec n) (K : Value → Prop) :
    rdP P (Instr.lookup M (.map (some g)) (kv k) true) w K = K (.tuple #[(getE k l).getD z, .bool (getE k l).isSome]) := by
  refine rdP_eq ?_ K
  unfold Instr.lookup
  simp only [Sem.run_bind, run_underlying hM, Result.andThen_ok, get_map hg, Sem.run_pure, run_key hT k _ 9998, run_findKey hT k l]
  rw [← findE_get k l 0]
  cases h : findE k l 0 with
  | none => simp [hz]
  | some x => simp
theorem lookup_map1 {M V g c : Nat} {l : List (Ent n)} {z : Value} (hM : P.underlying M = some (.map T V)) (hT : KeyT P T E n) (hz : (zeroValue V).run P w = .ok z w) (hg : w.heap[g]? = some (.map (ents l) c)) (k : Vec n) (K : Value → Prop) :
    rdP P (Instr.lookup M (.map (some g)) (kv k) false) w K = K ((getE k l).getD z) := by
  refine rdP_eq ?_ K
  unfold Instr.lookup
  simp only [Sem.run_bind, run_underlying hM, Result.andThen_ok, get_map hg, Sem.run_pure, run_key hT k _ 9998, run_findKey hT k l]
  rw [← findE_get k l 0]
  cases h : findE k l 0 with
  | none => simp [hz]
  | some x => simp
theorem getE_none {k : Vec n} {l : List (Ent n)} (h : getE k l = none) (i : Nat) : findE k l i = none := by
  have := findE_get k l i
  rw [h] at this
  simpa using this
theorem map_erase {α β : Type} (f : α → β) : ∀ (l : List α) (i : Nat), (l.map f).eraseIdx i = (l.eraseIdx i).map f
  | [], _ => by simp
  | _ :: _, 0 => rfl
  | a :: l, i + 1 => by simp [map_erase f l i]
/-- What a key has no longer. -/
def delE (k : Vec n) (l : List (Ent n)) : List (Ent n) := match findE k l 0 with
  | some (i, _) => l.eraseIdx i
  | none => l
abbrev mp (g : Nat) (l : List (Ent n)) (c : Nat) : Asn := Asn.obj g (.map (ents l) c)
variable {w0 : World} {As : List Asn}
theorem makeMap_s {t : TypeId} {K : Value → World → Prop} (hs : Sep w0 w As) (h : ∀ g w', Sep w0 w' (mp (n := n) g [] 0 :: As) → K (.map (some g)) w') : efP P (Instr.makeMap t none) w K :=
  ⟨.map (some w.heap.size), w.alloc (.map #[] 0), rfl, h _ _ (hs.new (fr_alloc w _) (B := mp _ [] 0) ⟨alloc_new w _, rfl⟩ (by simp))⟩
theorem Sep.map {g c : Nat} {l : List (Ent n)} (hs : Sep w0 w (mp g l c :: As)) : w.heap[g]? = some (.map (ents l) c) := by
  obtain ⟨F, hF, _⟩ := hs.head
  exact hF
/-- A key that is not there yet. -/
theorem putNew_s {M V g c : Nat} {l : List (Ent n)} {k : Vec n} {v : Value} {K : World → Prop} (hM : P.underlying M = some (.map T V)) (hT : KeyT P T E n) (hs : Sep w0 w (mp g l c :: As)) (hk : getE k l = none)
    (h : ∀ w', Sep w0 w' (mp g (l ++ [(k, v, c)]) (c + 1) :: As) → K w') : efU P (Instr.mapUpdate M (.map (some g)) (kv k) v) w K := by
  have hg := hs.map
  obtain ⟨F, ⟨hb, rfl⟩, hu⟩ := hs.upd
  have e : (ents l).push (entM (k, v, c)) = ents (l ++ [(k, v, c)]) := by
    apply Array.ext'
    simp [ents]
  refine ⟨setBlk w g (.map (ents (l ++ [(k, v, c)])) (c + 1)), ?_, h _ (hu _ [g] (mp g _ _) ⟨setBlk_self w g _ _ hb, rfl⟩ (fr_setBlk w g _) (Grew.refl _ _))⟩
  unfold Instr.mapUpdate
  simp only [Sem.run_bind, run_underlying hM, Result.andThen_ok, get_map hg, run_key hT k _ 9998, run_findKey hT k l, getE_none hk 0]
  rw [← e]
  exact set_map _ hg
theorem del_s {M V g c t ty : Nat} {l : List (Ent n)} {k : Vec n} {K : Value → World → Prop} (hM : P.underlying M = some (.map T V)) (hT : KeyT P T E n) (hs : Sep w0 w (mp g l c :: As))
    (h : ∀ w', Sep w0 w' (mp g (delE k l) c :: As) → K (.tuple #[]) w') : efP P (Builtin.delete_ #[M, t] ty #[.map (some g), kv k]) w K := by
  have hg := hs.map
  obtain ⟨F, ⟨hb, rfl⟩, hu⟩ := hs.upd
  refine ⟨.tuple #[], setBlk w g (.map (ents (delE k l)) c), ?_, h _ (hu _ [g] (mp g _ _) ⟨setBlk_self w g _ _ hb, rfl⟩ (fr_setBlk w g _) (Grew.refl _ _))⟩
  unfold Builtin.delete_
  simp only [List.getElem?_toArray, List.getElem?_cons_zero, List.getElem?_cons_succ, Sem.run_bind, run_underlying hM, Result.andThen_ok, get_map hg, run_key hT k _ 9998, run_findKey hT k l]
  unfold delE
  cases hf : findE k l 0 with
  | none => simp [set_map _ hg]
  | some x =>
    obtain ⟨i, y⟩ := x
    have e : (ents l).eraseIdxIfInBounds i = ents (l.eraseIdx i) := by
      apply Array.ext'
      simp [ents, map_erase]
    simp [set_map _ hg, e]
theorem len_map {M V g c ty : Nat} {l : List (Ent n)} (hM : P.underlying M = some (.map T V)) (hg : w.heap[g]? = some (.map (ents l) c)) (hl : l.length ≤ 9223372036854775807) (K : Value → Prop) : rdP P (Builtin.len_ #[M] ty #[.map (some g)]) w K = K (.int .i64 l.length) := by
  refine rdP_eq ?_ K
  unfold Builtin.len_
  simp [run_underlying hM, get_map hg, ents, goInt]
end
end Go.Fx
set_option linter.unusedVariables false
set_option linter.unusedSimpArgs false
namespace Go.Fx
abbrev Vt := Vec 32 × Int
def ltV (a b : Vec 32) : Bool := decide (ofBe a.1 < ofBe b.1)
def sumV (V : List Vt) : Int := (V.map (·.2)).sum
theorem sumV_snoc (V : List Vt) (v : Vt) : sumV (V ++ [v]) = sumV V + v.2 := by simp [sumV]
theorem sumV_take {V : List Vt} {i : Nat} {v : Vt} (h : V[i]? = some v) : sumV (V.take (i + 1)) = sumV (V.take i) + v.2 := by
  rw [List.take_add_one, h]
  exact sumV_snoc _ _
/-- What is asked of the vote at a place. -/
def VAt (V : List Vt) (j : Nat) : Prop := ∀ v, V[j]? = some v → (∀ u, 0 < j → V[j - 1]? = some u → ltV u.1 v.1 = true) ∧ 1 ≤ v.2 ∧ v.2 ≤ 1048576 - sumV (V.take j)
/-- A bag that may be. -/
def bagOk (V : List Vt) : Prop := ∀ j, VAt V j
open Classical in
noncomputable def bagE (V : List Vt) : Int := if bagOk V then 0 else 70
theorem bagE_ok {V : List Vt} (h : bagOk V) : bagE V = 0 := if_pos h
theorem bagE_no {V : List Vt} (h : ¬ bagOk V) : bagE V = 70 := if_neg h
theorem bagE_zero {V : List Vt} : bagE V = 0 ↔ bagOk V := by
  by_cases h : bagOk V
  · exact ⟨fun _ => h, fun _ => bagE_ok h⟩
  · refine ⟨fun h2 => ?_, fun h2 => absurd h2 h⟩
    rw [bagE_no h] at h2
    cases h2
theorem VAt.sum {V : List Vt} {i : Nat} (h : ∀ j, j < i → VAt V j) : 0 ≤ sumV (V.take i) ∧ sumV (V.take i) ≤ 1048576 := by
  induction i with
  | zero => simp [sumV]
  | succ i ih =>
    obtain ⟨h1, h2⟩ := ih fun j hj => h j (by omega)
    cases hv : V[i]? with
    | none =>
      have e : V.take (i + 1) = V.take i := by rw [List.take_add_one, hv]; simp
      rw [e]; exact ⟨h1, h2⟩
    | some v =>
      obtain ⟨_, h3, h4⟩ := h i (by omega) v hv
      rw [sumV_take hv]
      omega
theorem bagOk.sum {V : List Vt} (h : bagOk V) (i : Nat) : 0 ≤ sumV (V.take i) ∧ sumV (V.take i) ≤ 1048576 := VAt.sum fun j _ => h j
theorem bagOk.pos {V : List Vt} (h : bagOk V) : ∀ v ∈ V, 1 ≤ v.2 := fun v hv => by
  obtain ⟨i, hi⟩ := List.getElem?_of_mem hv
  exact (h i v hi).2.1
theorem bagOk.len {V : List Vt} (h : bagOk V) : V.length ≤ 1048576 := by
  have h1 : ∀ i, i ≤ V.length → (i : Int) ≤ sumV (V.take i) := fun i => by
    induction i with
    | zero => simp [sumV]
    | succ i ih =>
      intro hi
      obtain ⟨v, hv⟩ : ∃ v, V[i]? = some v := ⟨_, List.getElem?_eq_getElem (by omega)⟩
      have := (h i v hv).2.1
      have := ih (by omega)
      rw [sumV_take hv]
      omega
  have := h1 V.length (Nat.le_refl _)
  have := (h.sum V.length).2
  omega
def optB (c : Bool) (v : Value) : Value := bif c then v else undef
/-- The votes of a name: those of the first vote for it. -/
def cntV (V : List Vt) (k : Vec 32) : Int := match V.find? fun v => decide (v.1 = k) with | none => 0 | some v => v.2
open Classical in
noncomputable def goodV (V : List Vt) : List Vt := if bagOk V then V else []
section
variable {w0 w w' : World} {v : Value} {V : List Vt}
theorem oneVt {b : Vt} : ∀ u ∈ Rdr.cells Q_api_Vote b, u.oneCell' = true := onePair oneVec oneI
theorem cmpB_spec {x y : Value} {a b : List UInt8} (hx : RdB w.heap x a) (hy : RdB w.heap y b) :
    cal P f_bytes_Compare [x, y] w fun v w' => v = .int .i64 (Extern.BytealgCompare.cmp ⟨a.toArray⟩ ⟨b.toArray⟩) ∧ w = w' := by
  refine s_bytes_Compare fun R hR => ?_
  unfold c_bytes_Compare
  refine ⟨_, _, ?_, hR _ _ ⟨rfl, rfl⟩⟩
  have hs : (P.funcs[f_internal_bytealg_Compare]?).isSome = true := by kernel_rfl
  have hf : P.funcs[f_internal_bytealg_Compare]? = some ((P.funcs[f_internal_bytealg_Compare]?).get hs) := (Option.some_get hs).symm
  rw [run_callFunc_extern (e := Extern.BytealgCompare.compare) hf (by kernel_rfl) (by kernel_rfl) (by kernel_rfl) (by kernel_rfl)]
  change (Sem.run P (do pure (goInt (Extern.BytealgCompare.cmp (← Extern.Bytes.bytesOf x) (← Extern.Bytes.bytesOf y)))) w).andThen _ = _
  simp only [Sem.run_bind, hx.bytesOf, hy.bytesOf, Result.andThen_ok, Sem.run_pure, goInt]
theorem bgCompare_spec (a b : Vec 32) : cal P f_bag_compare [kv a, kv b] w fun r w' => r = .int .i64 (Extern.BytealgCompare.cmp ⟨a.1.toArray⟩ ⟨b.1.toArray⟩) ∧ Fr [] w w' := by
  refine s_bag_compare fun R hR => ?_
  unfold c_bag_compare
  refine bxQ (Sep.start w) fun g2 w1 hs1 => ?_
  refine bxQ hs1 fun g3 w2 hs2 => ?_
  refine drH_S hs2 fun w3 hs3 _ => ?_
  rw [sla_all, sla_all]
  refine efC_cal (cal_i (cmpB_spec (rd_vec hs3.p1) (rd_vec hs3)) ?_)
  rintro _ _ ⟨rfl, rfl⟩
  exact hR _ _ ⟨rfl, hs3.fr0⟩
theorem bgLess_spec (a b : Vec 32) : cal P f_bag_Less [kv a, kv b] w fun r w' => r = .bool (ltV a b) ∧ Fr [] w w' := by
  refine s_bag_Less fun R hR => ?_
  unfold c_bag_Less
  refine bxQ (Sep.start w) fun g2 w1 hs1 => ?_
  refine bxQ hs1 fun g3 w2 hs2 => ?_
  simp only [L_api_ID hs2.p1.blk, L_api_ID hs2.blk]
  refine cal_i (bgCompare_spec a b) ?_
  rintro _ w3 ⟨rfl, hf3⟩
  simp only [fx, Nat.reduceAdd, forall_const]
  refine hR _ _ ⟨?_, (hs2.old hf3).fr0⟩
  have h := cmp_lt a.1 b.1 (by rw [a.2, b.2])
  unfold ltV
  congr 1
  exact decide_eq_decide.2 h
theorem rdS_vtI {S : World → Prop} {j : Nat} {a : Vt} {K : Value → Prop} (hw : S w) (hS : ∀ u, S u → Rows' Q_api_Vote u.heap v V) (hj : V[j]? = some a) (k : IntKind) (h : K (kv a.1)) :
    ixs 33 v (.int k (j : Int)) fun t => fad 0 t fun t' => rdS S (fun w => ldN 32 t' w.heap) K := by
  obtain ⟨g, o, c, rfl⟩ := (hS w hw).form (by decide) hj
  have hlt := (List.getElem?_eq_some_iff.1 hj).1
  rw [show (33 : Nat) = (Q_api_Vote).size from rfl, ixs_mk _ _ _ _ _ _ _ _ (by omega) (by omega), Int.toNat_natCast]
  simp only [fx, Nat.reduceAdd, forall_const]
  refine ⟨kv a.1, fun z hz => ?_, h⟩
  exact (LA_api_Vote__ID (At.of (by decide) (hS z hz) hj) _).mpr rfl
theorem ld_vtN {j : Nat} {a : Vt} {K : Value → Prop} (hr : Rows' Q_api_Vote w.heap v V) (hj : V[j]? = some a) (k : IntKind) (h : K (.int .i64 a.2)) :
    ixs 33 v (.int k (j : Int)) fun t => fad 32 t fun t' => Go.Fx.ld1 t' w.heap K := by
  obtain ⟨g, o, c, rfl⟩ := hr.form (by decide) hj
  have hlt := (List.getElem?_eq_some_iff.1 hj).1
  rw [show (33 : Nat) = (Q_api_Vote).size from rfl, ixs_mk _ _ _ _ _ _ _ _ (by omega) (by omega), Int.toNat_natCast]
  simp only [fx, Nat.reduceAdd, forall_const]
  exact (LA_api_Vote__N (At.of (by decide) hr hj) _).mpr h
theorem rdS_vtN {S : World → Prop} {j : Nat} {a : Vt} {K : Value → Prop} (hw : S w) (hS : ∀ u, S u → Rows' Q_api_Vote u.heap v V) (hj : V[j]? = some a) (k : IntKind) (h : K (.int .i64 a.2)) :
    ixs 33 v (.int k (j : Int)) fun t => fad 32 t fun t' => rdS S (fun w => Go.Fx.ld1 t' w.heap) K := by
  obtain ⟨g, o, c, rfl⟩ := (hS w hw).form (by decide) hj
  have hlt := (List.getElem?_eq_some_iff.1 hj).1
  rw [show (33 : Nat) = (Q_api_Vote).size from rfl, ixs_mk _ _ _ _ _ _ _ _ (by omega) (by omega), Int.toNat_natCast]
  simp only [fx, Nat.reduceAdd, forall_const]
  refine ⟨.int .i64 a.2, fun z hz => ?_, h⟩
  exact (LA_api_Vote__N (At.of (by decide) (hS z hz) hj) _).mpr rfl
theorem bgCheck_spec (hr : Rows' Q_api_Vote w.heap v V) (hl : V.length ≤ 9223372036854775807) : cal P f_bag_Check [v] w fun r w' => r = .int .i64 (bagE V) ∧ Fr [] w w' := by
  refine s_bag_Check fun R hR => ?_
  unfold c_bag_Check
  rw [hr.len]
  refine ⟨fun a b z => ∃ i : Nat, b = .int .i64 i ∧ i ≤ V.length ∧ a = .int .i64 (sumV (V.take i)) ∧ (∀ j, j < i → VAt V j) ∧ Fr [] w z, fun _ b _ => (V.length - RowKit.intOf b).toNat, ⟨0, rfl, by omega, by simp [sumV], fun j hj => by omega, Fr.refl _ _⟩, ?_⟩
  rintro _ _ z ⟨i, rfl, hi, rfl, hV, hf⟩ -
  obtain ⟨hs0, hs1⟩ := VAt.sum hV
  simp only [fx, Nat.reduceAdd, forall_const]
  rw [cnd_bool]
  refine ⟨fun h => ?_, fun h => ?_⟩
  case refine_2 =>
    have hge : i = V.length := by simp at h; omega
    refine hR _ _ ⟨?_, hf⟩
    rw [bagE_ok fun j => ?_]
    by_cases hj : j < i
    · exact hV j hj
    · intro u hu
      have := (List.getElem?_eq_some_iff.1 hu).1
      omega
  have hlt : i < V.length := by simp at h; omega
  obtain ⟨a, ha⟩ : ∃ a, V[i]? = some a := ⟨_, List.getElem?_eq_getElem hlt⟩
  have hrz := hr.fr hf
  change ixs 33 _ _ _
  refine Rows'.ldN (q := Q_api_Vote) (by decide) hrz ha .i64 ?_
  refine alloc_s ((Sep.start w).old hf) (A_api_Vote z) fun g5 z1 hz1 => ?_
  refine St_api_Vote (b := a) hz1 oneVt fun z2 hz2 => ?_
  refine drH_S hz2 fun z3 hz3 _ => ?_
  simp only [fx, Nat.reduceAdd, forall_const]
  classical
  obtain ⟨lt, hlt'⟩ : ∃ lt : Bool, lt = decide (∀ u, 0 < i → V[i - 1]? = some u → ltV u.1 a.1 = true) := by
    cases hp : V[i - 1]? with
    | none => exact ⟨true, by simp⟩
    | some u =>
      by_cases h0 : 0 < i
      · by_cases hc : ltV u.1 a.1 = true
        · exact ⟨true, by symm; exact decide_eq_true fun x _ hx => by cases hx; exact hc⟩
        · exact ⟨false, by symm; exact decide_eq_false fun hx => hc (hx u h0 rfl)⟩
      · exact ⟨true, by symm; exact decide_eq_true fun x hx => absurd hx h0⟩
  refine ⟨fun y z => pik (.bool (decide ((0 : Int) < (i : Int)))) y (.bool false) (fun t => t = .bool (!lt)) ∧ Sep w z [blk g5 (Rdr.cells Q_api_Vote a).toArray T_api_Vote], ?_, ?_⟩
  · by_cases h0 : i = 0
    · subst h0
      have hl1 : lt = true := by rw [hlt']; exact decide_eq_true fun u hu => by omega
      rw [hl1]
      simp only [fx, Nat.reduceAdd, forall_const, show decide ((0 : Int) < ((0 : Nat) : Int)) = false from rfl]
      exact ⟨trivial, hz3⟩
    · have hd0 : decide ((0 : Int) < (i : Int)) = true := by simp; omega
      obtain ⟨u, hu⟩ : ∃ u, V[i - 1]? = some u := ⟨_, List.getElem?_eq_getElem (by omega)⟩
      have hl1 : lt = ltV u.1 a.1 := by
        rw [hlt']
        cases hc : ltV u.1 a.1 with
        | true => exact decide_eq_true fun x _ hx => by rw [hu] at hx; cases hx; exact hc
        | false => exact decide_eq_false fun hx => by have := hx u (by omega) hu; rw [hc] at this; cases this
      simp only [hd0, fx, Nat.reduceAdd, forall_const]
      rw [wi64 (by omega) (by omega), show (i : Int) - 1 = ((i - 1 : Nat) : Int) by omega]
      refine rdS_vtI hz3 (fun x hx => hr.fr hx.fr0) hu .i64 ?_
      refine ⟨kv a.1, fun x hx => (L_api_Vote__ID (Sep.blk hx) _).mpr rfl, ?_⟩
      refine efS_i (cal_i (bgLess_spec u.1 a.1) ?_)
      rintro _ z4 ⟨rfl, hf4⟩
      have hz4 := hz3.old hf4
      refine ⟨hz4, ?_⟩
      simp only [fx, Nat.reduceAdd, forall_const]
      exact ⟨by rw [hl1], hz4⟩
  rintro y z4 ⟨hy, hz4⟩ _
  have ep : ∀ K, pik (.bool (decide ((0 : Int) < (i : Int)))) y (.bool false) K = K (.bool (!lt)) := fun K => by
    cases hd : decide ((0 : Int) < (i : Int)) with
    | true => rw [hd] at hy; rw [pik_true] at hy ⊢; rw [hy]
    | false => rw [hd] at hy; rw [pik_false] at hy ⊢; rw [hy]
  rw [ep]
  refine ⟨fun y z => y = optB lt (.bool (decide (a.2 < 1))) ∧ Sep w z [blk g5 (Rdr.cells Q_api_Vote a).toArray T_api_Vote], ?_, ?_⟩
  · cases lt with
    | false => simp only [fx, Nat.reduceAdd, forall_const]; exact ⟨rfl, hz4⟩
    | true =>
      simp only [fx, Nat.reduceAdd, forall_const]
      refine rdS_ld (v := .int .i64 a.2) (fun u hu K hk => (L_api_Vote__N (Sep.blk hu) K).mpr hk) ?_
      simp only [fx, Nat.reduceAdd, forall_const]
      exact ⟨rfl, hz4⟩
  rintro _ z5 ⟨rfl, hz5⟩ _
  obtain ⟨bad, hbad⟩ : ∃ bad : Bool, bad = (!lt || decide (a.2 < 1)) := ⟨_, rfl⟩
  have ep2 : ∀ K, pik (.bool (!lt)) (.bool true) (optB lt (.bool (decide (a.2 < 1)))) K = K (.bool bad) := fun K => by
    rw [hbad]
    cases lt <;> simp only [fx, Nat.reduceAdd, forall_const, optB]
  rw [ep2]
  have ew : IntKind.i64.wrap (1048576 - sumV (V.take i)) = 1048576 - sumV (V.take i) := wi64 (by omega) (by omega)
  refine ⟨fun y z => y = optB (!bad) (.bool (decide (1048576 - sumV (V.take i) < a.2))) ∧ Sep w z [blk g5 (Rdr.cells Q_api_Vote a).toArray T_api_Vote], ?_, ?_⟩
  · cases bad with
    | true => simp only [fx, Nat.reduceAdd, forall_const]; exact ⟨rfl, hz5⟩
    | false =>
      simp only [fx, Nat.reduceAdd, forall_const]
      refine rdS_ld (v := .int .i64 a.2) (fun u hu K hk => (L_api_Vote__N (Sep.blk hu) K).mpr hk) ?_
      simp only [fx, Nat.reduceAdd, forall_const, ew]
      exact ⟨rfl, hz5⟩
  rintro _ z6 ⟨rfl, hz6⟩ _
  have ep3 : ∀ K, pik (.bool bad) (.bool true) (optB (!bad) (.bool (decide (1048576 - sumV (V.take i) < a.2)))) K = K (.bool (bad || decide (1048576 - sumV (V.take i) < a.2))) := fun K => by
    cases bad <;> simp only [fx, Nat.reduceAdd, forall_const, optB]
  rw [ep3, cnd_bool, hbad]
  refine ⟨fun h => ?_, fun h => ?_⟩
  · refine hR _ _ ⟨?_, hz6.fr0⟩
    rw [bagE_no fun hb => ?_]
    obtain ⟨h1, h2, h3⟩ := hb i a ha
    have hl1 : lt = true := by rw [hlt']; exact decide_eq_true h1
    rw [hl1] at h
    simp only [Bool.not_true, Bool.false_or, Bool.or_eq_true, decide_eq_true_eq] at h
    omega
  · have hl1 : lt = true ∧ 1 ≤ a.2 ∧ a.2 ≤ 1048576 - sumV (V.take i) := by
      simp only [Bool.or_eq_false_iff, Bool.not_eq_false', decide_eq_false_iff_not] at h
      exact ⟨h.1.1, by omega, by omega⟩
    simp only [fx, Nat.reduceAdd, forall_const, L_api_Vote hz6.blk, L_api_Vote__ID hz6.blk, L_api_Vote__N hz6.blk]
    rw [wi64 (by omega) (by omega), wi64 (by omega) (by omega)]
    refine ⟨⟨i + 1, by simp, by omega, by rw [sumV_take ha], fun j hj => ?_, hz6.fr0⟩, by simp [RowKit.intOf] <;> omega⟩
    by_cases hji : j < i
    · exact hV j hji
    · obtain rfl : j = i := by omega
      intro u hu
      rw [ha] at hu
      cases hu
      exact ⟨of_decide_eq_true (hlt'.symm.trans hl1.1), hl1.2⟩
theorem bgGood_spec (hr : Rows' Q_api_Vote w.heap v V) (hl : V.length ≤ 9223372036854775807) : cal P f_bag_good [v] w fun r w' => Rows' Q_api_Vote w'.heap r (goodV V) ∧ Fr [] w w' := by
  refine s_bag_good fun R hR => ?_
  unfold c_bag_good
  refine cal_i (bgCheck_spec hr hl) ?_
  rintro _ w1 ⟨rfl, hf1⟩
  simp only [fx, Nat.reduceAdd, forall_const]
  rw [cnd_bool]
  refine ⟨fun h => ?_, fun h => ?_⟩
  · have hb : ¬ bagOk V := fun hb => by rw [bagE_ok hb] at h; cases h
    refine hR _ _ ⟨?_, hf1⟩
    rw [goodV, if_neg hb]
    exact ⟨none, 0, rfl, by simp, .inl (by simp)⟩
  · have hb : bagOk V := bagE_zero.1 (by simpa using h)
    refine hR _ _ ⟨?_, hf1⟩
    rw [goodV, if_pos hb]
    exact hr.fr hf1
theorem goodV_ok (V : List Vt) : bagOk (goodV V) := by
  by_cases h : bagOk V
  · rw [goodV, if_pos h]; exact h
  · rw [goodV, if_neg h]
    intro j u hu
    simp at hu
theorem bgTotal_spec (hr : Rows' Q_api_Vote w.heap v V) (hl : V.length ≤ 9223372036854775807) : cal P f_bag_Total [v] w fun r w' => r = .int .i64 (sumV (goodV V)) ∧ Fr [] w w' := by
  refine s_bag_Total fun R hR => ?_
  unfold c_bag_Total
  refine cal_i (bgGood_spec hr hl) ?_
  rintro y w1 ⟨hry, hf1⟩
  have hok := goodV_ok V
  obtain ⟨G, hG⟩ : ∃ G, G = goodV V := ⟨_, rfl⟩
  rw [← hG] at hry hok hR
  have hGl := hok.len
  rw [hry.len]
  refine ⟨fun a b z => ∃ i : Nat, b = .int .i64 i ∧ i ≤ G.length ∧ a = .int .i64 (sumV (G.take i)) ∧ Fr [] w1 z, fun _ b _ => (G.length - RowKit.intOf b).toNat, ⟨0, rfl, by omega, by simp [sumV], Fr.refl _ _⟩, ?_⟩
  rintro _ _ z ⟨i, rfl, hi, rfl, hf⟩ -
  simp only [fx, Nat.reduceAdd, forall_const]
  rw [cnd_bool]
  refine ⟨fun h => ?_, fun h => ?_⟩
  case refine_2 =>
    have hge : i = G.length := by simp at h; omega
    refine hR _ _ ⟨?_, hf1.trans hf (by simp) (by simp)⟩
    rw [hge, List.take_of_length_le (Nat.le_refl _)]
  have hlt : i < G.length := by simp at h; omega
  obtain ⟨a, ha⟩ : ∃ a, G[i]? = some a := ⟨_, List.getElem?_eq_getElem hlt⟩
  change ixs 33 _ _ _
  refine Rows'.ldN (q := Q_api_Vote) (by decide) (hry.fr hf) ha .i64 ?_
  refine alloc_s ((Sep.start w1).old hf) (A_api_Vote z) fun g5 z1 hz1 => ?_
  refine St_api_Vote (b := a) hz1 oneVt fun z2 hz2 => ?_
  simp only [fx, Nat.reduceAdd, forall_const, L_api_Vote hz2.blk, L_api_Vote__ID hz2.blk, L_api_Vote__N hz2.blk]
  have h1 := hok.sum i
  have h2 := hok.sum (i + 1)
  rw [sumV_take ha] at h2
  rw [wi64 (by omega) (by omega), wi64 (by omega) (by omega)]
  exact ⟨⟨i + 1, by simp, by omega, by rw [sumV_take ha], hz2.fr0⟩, by simp [RowKit.intOf] <;> omega⟩
theorem cntV_take {V : List Vt} {k : Vec 32} {i : Nat} {a : Vt} (ha : V[i]? = some a) (hn : ∀ j u, j < i → V[j]? = some u → u.1 ≠ k) (hk : a.1 = k) : cntV V k = a.2 := by
  unfold cntV
  have e : V = V.take i ++ a :: V.drop (i + 1) := by
    have hlt := (List.getElem?_eq_some_iff.1 ha).1
    have h2 : V[i] = a := (List.getElem?_eq_some_iff.1 ha).2
    rw [← h2, List.getElem_cons_drop, List.take_append_drop]
  have h1 : (V.take i).find? (fun v => decide (v.1 = k)) = none := by
    rw [List.find?_eq_none]
    intro x hx
    obtain ⟨j, hj⟩ := List.getElem?_of_mem hx
    rw [List.getElem?_take] at hj
    split at hj
    · rename_i hji
      simpa using hn j x hji hj
    · cases hj
  rw [e, List.find?_append, h1, Option.none_or, List.find?_cons_of_pos (by simpa using hk)]
theorem cntV_none {V : List Vt} {k : Vec 32} (hn : ∀ u ∈ V, u.1 ≠ k) : cntV V k = 0 := by
  unfold cntV
  have h1 : V.find? (fun v => decide (v.1 = k)) = none := by
    rw [List.find?_eq_none]
    intro x hx
    simpa using hn x hx
  rw [h1]
theorem bgCount_spec (hr : Rows' Q_api_Vote w.heap v V) (hl : V.length ≤ 9223372036854775807) (k : Vec 32) : cal P f_bag_Count [v, kv k] w fun r w' => r = .int .i64 (cntV (goodV V) k) ∧ Fr [] w w' := by
  refine s_bag_Count fun R hR => ?_
  unfold c_bag_Count
  refine bxQ (Sep.start w) fun g3 w1 hs1 => ?_
  refine cal_i (bgGood_spec (hr.fr hs1.fr0) hl) ?_
  rintro y w2 ⟨hry, hf2⟩
  have hs2 := hs1.old hf2
  have hc3 := Sep.blk hs2
  have hok := goodV_ok V
  obtain ⟨G, hG⟩ : ∃ G, G = goodV V := ⟨_, rfl⟩
  rw [← hG] at hry hok hR
  have hGl := hok.len
  rw [hry.len]
  refine ⟨fun b z => ∃ i : Nat, b = .int .i64 i ∧ i ≤ G.length ∧ (∀ j u, j < i → G[j]? = some u → u.1 ≠ k) ∧ Fr [] w2 z, fun b _ => (G.length - RowKit.intOf b).toNat, ⟨0, rfl, by omega, fun j u hj => by omega, Fr.refl _ _⟩, ?_⟩
  rintro _ z ⟨i, rfl, hi, hn, hf⟩ -
  simp only [fx, Nat.reduceAdd, forall_const]
  rw [cnd_bool]
  refine ⟨fun h => ?_, fun h => ?_⟩
  case refine_2 =>
    have hge : i = G.length := by simp at h; omega
    refine hR _ _ ⟨?_, (hs2.old hf).fr0⟩
    rw [cntV_none fun u hu => ?_]
    obtain ⟨j, hj⟩ := List.getElem?_of_mem hu
    exact hn j u (by have := (List.getElem?_eq_some_iff.1 hj).1; omega) hj
  have hlt : i < G.length := by simp at h; omega
  obtain ⟨a, ha⟩ : ∃ a, G[i]? = some a := ⟨_, List.getElem?_eq_getElem hlt⟩
  change ixs 33 _ _ _
  refine Rows'.ldN (q := Q_api_Vote) (by decide) (hry.fr hf) ha .i64 ?_
  refine alloc_s ((Sep.start w2).old hf) (A_api_Vote z) fun g5 z1 hz1 => ?_
  have hc3z := fun (u : World) (hu : Fr [] w2 u) => hu.blk hc3 (by simp)
  refine St_api_Vote (b := a) hz1 oneVt fun z2 hz2 => ?_
  simp only [fx, Nat.reduceAdd, forall_const, L_api_Vote hz2.blk, L_api_Vote__ID hz2.blk, L_api_Vote__N hz2.blk, L_api_ID (hc3z _ hz2.fr0), eq_api_ID]
  rw [cnd_bool]
  refine ⟨fun h2 => ?_, fun h2 => ?_⟩
  · exact hR _ _ ⟨by rw [cntV_take ha hn (by simpa using h2)], (hs2.old hz2.fr0).fr0⟩
  · rw [wi64 (by omega) (by omega)]
    refine ⟨⟨i + 1, by simp, by omega, fun j u hj hu => ?_, ?_⟩, by simp [RowKit.intOf] <;> omega⟩
    · by_cases hji : j < i
      · exact hn j u hji hu
      · obtain rfl : j = i := by omega
        rw [ha] at hu
        cases hu
        simpa using h2
    · exact hz2.fr0
end
end Go.Fx
set_option linter.unusedVariables false
set_option linter.unusedSimpArgs false
namespace Go.Fx
/-- How many stand ahead of a name. -/
def ahead (V : List Vt) (k : Vec 32) : Nat := (V.takeWhile fun v => ltV v.1 k).length
def putM (V : List Vt) (k : Vec 32) (n : Int) : List Vt :=
  if n = 0 then V else V.take (ahead V k) ++ (match V[ahead V k]? with
    | some v => if v.1 = k then (k, n + v.2) :: V.drop (ahead V k + 1) else (k, n) :: V.drop (ahead V k)
    | none => [(k, n)])
open Classical in
noncomputable def addB (V : List Vt) (k : Vec 32) (n : Int) : List Vt × Int :=
  if bagE V ≠ 0 then ([], 70) else if n < 0 then ([], 1) else if 1048576 - sumV V < n then ([], 6) else (putM V k n, 0)
theorem ahead_le (V : List Vt) (k : Vec 32) : ahead V k ≤ V.length := (List.takeWhile_sublist _).length_le
theorem putM_len (V : List Vt) (k : Vec 32) (n : Int) : (putM V k n).length ≤ V.length + 1 := by
  unfold putM
  split
  · omega
  · have h := ahead_le V k
    rw [List.length_append, List.length_take]
    cases hv : V[ahead V k]? with
    | none => simp; omega
    | some v =>
      have hlt := (List.getElem?_eq_some_iff.1 hv).1
      simp only
      split <;> simp <;> omega
theorem ahead_at {V : List Vt} {k : Vec 32} {i : Nat} (h1 : ∀ j v, j < i → V[j]? = some v → ltV v.1 k = true) (hi : i ≤ V.length) (h2 : ∀ v, V[i]? = some v → ltV v.1 k = false) : ahead V k = i := by
  unfold ahead
  induction V generalizing i with
  | nil => simp at hi; simp [hi]
  | cons v V ih =>
    cases i with
    | zero =>
      have := h2 v rfl
      rw [List.takeWhile_cons_of_neg (by simp [this])]
      rfl
    | succ i =>
      have := h1 0 v (by omega) rfl
      rw [List.takeWhile_cons_of_pos (p := fun v : Vt => ltV v.1 k) this, List.length_cons, ih (i := i) (fun j u hj hu => h1 (j + 1) u (by omega) hu) (by simpa using hi) (fun u hu => h2 u hu)]
/-- Which of two names of one length is less: the first unlike byte tells. -/
theorem lt_first {a b : List UInt8} (hl : a.length = b.length) {i : Nat} {x y : UInt8} (hx : a[i]? = some x) (hy : b[i]? = some y) (he : a.take i = b.take i) (hne : x ≠ y) : (ofBe a < ofBe b) ↔ x < y := by
  have ha : a = a.take i ++ x :: a.drop (i + 1) := by
    have h := List.getElem?_eq_some_iff.1 hx
    rw [← h.2, List.getElem_cons_drop, List.take_append_drop]
  have hb : b = b.take i ++ y :: b.drop (i + 1) := by
    have h := List.getElem?_eq_some_iff.1 hy
    rw [← h.2, List.getElem_cons_drop, List.take_append_drop]
  have hd : (a.drop (i + 1)).length = (b.drop (i + 1)).length := by simp [hl]
  rw [ha, hb, ← he, ofBe_append, ofBe_append, ofBe_cons, ofBe_cons, List.length_cons, List.length_cons, hd]
  have h1 := ofBe_lt (a.drop (i + 1))
  have h2 := ofBe_lt (b.drop (i + 1))
  rw [hd] at h1
  generalize 256 ^ (b.drop (i + 1)).length = q at *
  rw [UInt8.lt_iff_toNat_lt]
  have hne2 : x.toNat ≠ y.toNat := fun h => hne (UInt8.toNat_inj.1 h)
  constructor
  · intro h
    rcases Nat.lt_or_ge x.toNat y.toNat with hlt | hge
    · exact hlt
    · exfalso
      have : (y.toNat + 1) * q ≤ x.toNat * q := Nat.mul_le_mul_right _ (by omega)
      rw [Nat.add_mul, Nat.one_mul] at this
      omega
  · intro h
    have : (x.toNat + 1) * q ≤ y.toNat * q := Nat.mul_le_mul_right _ h
    rw [Nat.add_mul, Nat.one_mul] at this
    omega
end Go.Fx
set_option linter.unusedVariables false
set_option linter.unusedSimpArgs false
namespace Go.Fx
/-- A join of 'and': what the second part is, and what holds behind it. -/
theorem jn1_gif {d : Bool} {w : World} {A : (Value → World → Prop) → Prop} {rest : Env → Value → World → Prop} (c : Bool) (Q : World → Prop) (hA : d = true → A fun y z => y = .bool c ∧ Q z) (hn : d = false → c = false ∧ Q w)
    (hr : ∀ y z, (∀ K, pik (.bool d) y (.bool false) K = K (.bool c)) → Q z → ∀ junk, rest junk y z) : jn1 (fun k => gif (.bool d) true (A k) (k undef w)) rest := by
  refine ⟨fun y z => (∀ K, pik (.bool d) y (.bool false) K = K (.bool c)) ∧ Q z, ?_, fun y z h => hr y z h.1 h.2⟩
  cases d with
  | true =>
    rw [gif_same]
    have e : (fun y z => y = .bool c ∧ Q z) = (fun y z => (∀ K, pik (.bool true) y (.bool false) K = K (.bool c)) ∧ Q z) := by
      funext y z
      simp only [pik_true]
      refine propext ⟨fun ⟨h1, h2⟩ => ⟨fun K => by rw [h1], h2⟩, fun ⟨h1, h2⟩ => ⟨?_, h2⟩⟩
      have := h1 fun t => t = .bool c
      simp only [eq_self] at this
      exact this.mpr trivial
    have := hA rfl
    rw [e] at this
    exact this
  | false =>
    obtain ⟨h1, h2⟩ := hn rfl
    rw [gif_ft]
    exact ⟨fun K => by rw [pik_false, h1], h2⟩
theorem vtOne (l : List Vt) : ∀ u ∈ l.flatMap (Rdr.cells Q_api_Vote), u.oneCell' = true := fun u hu => by
  obtain ⟨x, hx, hu⟩ := List.mem_flatMap.1 hu
  exact oneVt u hu
section
variable {w0 w w' : World} {As : List Asn} {v : Value} {V : List Vt} {a0 : Option Addr} {c0 : Nat}
theorem l7Less (a b : Vec 32) : cal P f_ref07_Less [kv a, kv b] w fun r w' => r = .bool (ltV a b) ∧ Fr [] w w' := by
  refine s_ref07_Less fun R hR => ?_
  unfold c_ref07_Less
  refine bxQ (Sep.start w) fun g2 w1 hs1 => ?_
  refine bxQ hs1 fun g3 w2 hs2 => ?_
  have ha := a.2
  have hb := b.2
  refine ⟨fun y z => ∃ i : Nat, y = .int .i64 i ∧ i ≤ 32 ∧ a.1.take i = b.1.take i ∧ Sep w z [blk g3 (Rdr.cells (rVec 32) b).toArray T_api_ID, blk g2 (Rdr.cells (rVec 32) a).toArray T_api_ID], fun y _ => (32 - RowKit.intOf y).toNat, ⟨0, rfl, by omega, rfl, hs2⟩, ?_⟩
  rintro _ z ⟨i, rfl, hi, he, hz⟩ -
  try simp only [fx, Nat.reduceAdd, forall_const]
  rw [cnd_bool]
  refine ⟨fun h => ?_, fun h => ?_⟩
  case refine_2 =>
    have hi32 : i = 32 := by simp at h; omega
    subst hi32
    rw [List.take_of_length_le (by omega), List.take_of_length_le (by omega)] at he
    refine hR _ _ ⟨?_, hz.fr0⟩
    unfold ltV
    rw [he]
    simp
  have hlt : i < 32 := by simp at h; omega
  have byte : ∀ {z : World} {g : Nat} {x : Vec 32} {T : TypeId} {Bs : List Asn}, Sep w z (blk g (Rdr.cells (rVec 32) x).toArray T :: Bs) → ∀ (hx : i < x.1.length) {K : Value → Prop}, K (.int .u8 (x.1[i]'hx).toNat) → ld1 (.pointer (some ⟨g, i, none⟩)) z.heap K := fun {z g x T Bs} hz hx {K} hk => by
    refine ld1_i (v := bv (x.1[i]'hx)) (Sep.blk hz) ?_ hk
    show (bvs x.1).toArray[i]? = _
    simp [bvs, hx]
  refine drw_s hz fun z2 hz2 _ => ?_
  rw [ixa_w .i64 hlt]
  refine byte hz2.p1 (by omega) ?_
  rw [ixa_w .i64 hlt]
  refine byte hz2 (by omega) ?_
  try simp only [fx, Nat.reduceAdd, forall_const]
  rw [cnd_bool]
  have hxa : a.1[i]? = some (a.1[i]'(by omega)) := List.getElem?_eq_getElem _
  have hxb : b.1[i]? = some (b.1[i]'(by omega)) := List.getElem?_eq_getElem _
  refine ⟨fun h2 => ?_, fun h2 => ?_⟩
  · have hne : a.1[i]'(by omega) ≠ b.1[i]'(by omega) := fun hq => by rw [hq] at h2; simp at h2
    refine drw_s hz2 fun z3 hz3 _ => ?_
    rw [ixa_w .i64 hlt]
    refine byte hz3.p1 (by omega) ?_
    rw [ixa_w .i64 hlt]
    refine byte hz3 (by omega) ?_
    try simp only [fx, Nat.reduceAdd, forall_const]
    refine hR _ _ ⟨?_, hz3.fr0⟩
    have h3 := lt_first (by rw [ha, hb]) hxa hxb he hne
    unfold ltV
    congr 1
    refine decide_eq_decide.2 ?_
    rw [h3, UInt8.lt_iff_toNat_lt]
    omega
  · have heq : a.1[i]'(by omega) = b.1[i]'(by omega) := by
      have h2 : ((a.1[i]'(by omega)).toNat : Int) = ((b.1[i]'(by omega)).toNat : Int) := by simpa using h2
      exact UInt8.toNat_inj.1 (by omega)
    rw [wi64 (by omega) (by omega)]
    refine ⟨⟨i + 1, by simp, by omega, ?_, hz2⟩, by simp [RowKit.intOf] <;> omega⟩
    rw [List.take_add_one, List.take_add_one, he, hxa, hxb, heq]
theorem l7Check (hr : Rows' Q_api_Vote w.heap v V) (hl : V.length ≤ 9223372036854775807) : cal P f_ref07_Check [v] w fun r w' => r = .int .i64 (bagE V) ∧ Fr [] w w' := by
  refine s_ref07_Check fun R hR => ?_
  unfold c_ref07_Check
  refine ⟨fun a b z => ∃ i : Nat, b = .int .i64 i ∧ i ≤ V.length ∧ a = .int .i64 (1048576 - sumV (V.take i)) ∧ (∀ j, j < i → VAt V j) ∧ Fr [] w z, fun _ b _ => (V.length - RowKit.intOf b).toNat, ⟨0, rfl, by omega, by simp [sumV], fun j hj => by omega, Fr.refl _ _⟩, ?_⟩
  rintro _ _ z ⟨i, rfl, hi, rfl, hV, hf⟩ -
  obtain ⟨hs0, hs1⟩ := VAt.sum hV
  rw [hr.len]
  try simp only [fx, Nat.reduceAdd, forall_const]
  rw [cnd_bool]
  refine ⟨fun h => ?_, fun h => ?_⟩
  case refine_2 =>
    have hge : i = V.length := by simp at h; omega
    refine hR _ _ ⟨?_, hf⟩
    rw [bagE_ok fun j => ?_]
    by_cases hj : j < i
    · exact hV j hj
    · intro u hu
      have := (List.getElem?_eq_some_iff.1 hu).1
      omega
  have hlt : i < V.length := by simp at h; omega
  obtain ⟨a, ha⟩ : ∃ a, V[i]? = some a := ⟨_, List.getElem?_eq_getElem hlt⟩
  have hsz : Sep w z [] := (Sep.start w).old hf
  have hno : ∀ z, Fr [] w z → (¬ VAt V i) → R (.int .i64 70) z := fun z hz hb => hR _ _ ⟨by rw [bagE_no fun h => hb (h i)], hz⟩
  have hro : ∀ u, Sep w u [] → Rows' Q_api_Vote u.heap v V := fun u hu => hr.fr hu.fr0
  have hyes : ∀ z, Fr [] w z → VAt V i → ixs 33 v (.int .i64 (i : Int)) fun t48 => fad 32 t48 fun t49 => ld1 t49 z.heap fun t50 => bi .sub (.int .i64 (1048576 - sumV (V.take i))) t50 fun t51 => bi .add (.int .i64 (i : Int)) (.int .i64 1) fun t10 =>
      (∃ i : Nat, t10 = .int .i64 i ∧ i ≤ V.length ∧ t51 = .int .i64 (1048576 - sumV (V.take i)) ∧ (∀ j, j < i → VAt V j) ∧ Fr [] w z) ∧ (V.length - RowKit.intOf t10).toNat < (V.length - RowKit.intOf (.int .i64 (i : Int))).toNat := fun z hz hv => by
    refine ld_vtN (hr.fr hz) ha .i64 ?_
    obtain ⟨_, h2, h3⟩ := hv a ha
    try simp only [fx, Nat.reduceAdd, forall_const]
    rw [wi64 (by omega) (by omega), wi64 (by omega) (by omega)]
    refine ⟨⟨i + 1, by simp, by omega, ?_, fun j hj => ?_, hz⟩, by simp [RowKit.intOf] <;> omega⟩
    · rw [sumV_take ha]
      congr 1
      omega
    · by_cases hji : j < i
      · exact hV j hji
      · obtain rfl : j = i := by omega
        exact hv
  refine drH_S hsz fun z2 hz2 _ => ?_
  refine rdS_vtN hz2 hro ha .i64 ?_
  try simp only [fx, Nat.reduceAdd, forall_const]
  by_cases h1 : a.2 < 1
  · simp only [decide_eq_true h1, fx, Nat.reduceAdd, forall_const]
    exact hno _ hz2.fr0 fun hv => by have := (hv a ha).2.1; omega
  simp only [decide_eq_false h1, fx, Nat.reduceAdd, forall_const]
  refine ⟨fun y z => y = .bool (decide (1048576 - sumV (V.take i) < a.2)) ∧ Sep w z [], ?_, ?_⟩
  · refine rdS_vtN hz2 hro ha .i64 ?_
    try simp only [fx, Nat.reduceAdd, forall_const]
    exact ⟨by first | rfl | trivial, hz2⟩
  rintro _ z3 ⟨rfl, hz3⟩ _
  by_cases h2 : 1048576 - sumV (V.take i) < a.2
  · simp only [decide_eq_true h2, fx, Nat.reduceAdd, forall_const]
    exact hno _ hz3.fr0 fun hv => by have := (hv a ha).2.2; omega
  simp only [decide_eq_false h2, fx, Nat.reduceAdd, forall_const]
  by_cases h3 : i = 0
  · subst h3
    simp only [show decide ((0 : Int) < ((0 : Nat) : Int)) = false from rfl, show decide (((0 : Nat) : Int) > 0) = false from rfl, fx, Nat.reduceAdd, forall_const]
    have := hyes _ hz3.fr0 fun v hv => by
      rw [ha] at hv
      cases hv
      exact ⟨fun u h0 => absurd h0 (by omega), by omega, by omega⟩
    try simp only [fx, Nat.reduceAdd, forall_const] at this ⊢
    exact this
  have e3 : decide ((0 : Int) < (i : Int)) = true := decide_eq_true (by omega)
  have e4 : decide ((i : Int) > 0) = true := decide_eq_true (by omega)
  obtain ⟨u, hu⟩ : ∃ u, V[i - 1]? = some u := ⟨_, List.getElem?_eq_getElem (by omega)⟩
  simp only [e3, e4, fx, Nat.reduceAdd, forall_const]
  refine ⟨fun y z => y = .bool (!ltV u.1 a.1) ∧ Sep w z [], ?_, ?_⟩
  · rw [wi64 (by omega) (by omega), show (i : Int) - 1 = ((i - 1 : Nat) : Int) by omega]
    refine rdS_vtI hz3 hro hu .i64 ?_
    refine rdS_vtI hz3 hro ha .i64 ?_
    refine efS_i (cal_i (l7Less u.1 a.1) ?_)
    rintro _ z4 ⟨rfl, hf4⟩
    have hz4 := hz3.old hf4
    refine ⟨hz4, ?_⟩
    try simp only [fx, Nat.reduceAdd, forall_const]
    exact ⟨by first | rfl | trivial, hz4⟩
  rintro _ z4 ⟨rfl, hz4⟩ _
  try simp only [fx, Nat.reduceAdd, forall_const]
  cases hlv : ltV u.1 a.1 with
  | false =>
    try simp only [fx, Nat.reduceAdd, forall_const]
    exact hno _ hz4.fr0 fun hv => by
      have := (hv a ha).1 u (by omega) hu
      rw [hlv] at this
      cases this
  | true =>
    try simp only [fx, Nat.reduceAdd, forall_const]
    have := hyes _ hz4.fr0 fun v hv => by
      rw [ha] at hv
      cases hv
      exact ⟨fun u' _ hu' => by rw [hu] at hu'; cases hu'; exact hlv, by omega, by omega⟩
    try simp only [fx, Nat.reduceAdd, forall_const] at this ⊢
    exact this
end
end Go.Fx
set_option linter.unusedVariables false
set_option linter.unusedSimpArgs false
namespace Go.Fx
section
variable {w0 w w' : World} {As : List Asn} {v : Value} {V : List Vt} {a0 : Option Addr} {c0 : Nat}
theorem l7Total (hr : Rows' Q_api_Vote w.heap v V) (hl : V.length ≤ 1000000) : cal P f_ref07_Total [v] w fun r w' => r = .int .i64 (sumV (goodV V)) ∧ Fr [] w w' := by
  refine s_ref07_Total fun R hR => ?_
  unfold c_ref07_Total
  refine ⟨fun a b z => ∃ i : Nat, b = .int .i64 i ∧ i ≤ V.length ∧ a = .int .i64 (sumV ((goodV V).take i)) ∧ (i = 0 ∨ bagOk V) ∧ Fr [] w z, fun _ b _ => (V.length - RowKit.intOf b).toNat, ⟨0, rfl, by omega, by simp [sumV], .inl rfl, Fr.refl _ _⟩, ?_⟩
  rintro _ _ z ⟨i, rfl, hi, rfl, hb0, hf⟩ -
  rw [hr.len]
  try simp only [fx, Nat.reduceAdd, forall_const]
  refine jn1_gif (decide ((i : Int) < V.length) && decide (bagE V = 0)) (fun u => Fr [] w u) (fun hd => ?_) (fun hd => ⟨by rw [hd]; rfl, hf⟩) ?_
  · refine cal_i (l7Check (hr.fr hf) (by omega)) ?_
    rintro _ z1 ⟨rfl, hf1⟩
    try simp only [fx, Nat.reduceAdd, forall_const]
    refine ⟨?_, hf.trans hf1 (by simp) (by simp)⟩
    rw [hd, Bool.true_and]
    congr 1
  intro y z1 hy hf1 _
  rw [hy, cnd_bool]
  refine ⟨fun h => ?_, fun h => ?_⟩
  · simp only [Bool.and_eq_true, decide_eq_true_eq] at h
    have hb := bagE_zero.1 h.2
    have hG : goodV V = V := by rw [goodV, if_pos hb]
    rw [hG]
    have hlt : i < V.length := by omega
    obtain ⟨a, ha⟩ : ∃ a, V[i]? = some a := ⟨_, List.getElem?_eq_getElem hlt⟩
    refine ld_vtN (hr.fr hf1) ha .i64 ?_
    have h1 := hb.sum i
    have h2 := hb.sum (i + 1)
    rw [sumV_take ha] at h2
    try simp only [fx, Nat.reduceAdd, forall_const]
    rw [wi64 (by omega) (by omega), wi64 (by omega) (by omega)]
    refine ⟨⟨i + 1, by simp, by omega, by rw [sumV_take ha], .inr hb, hf1⟩, by simp [RowKit.intOf] <;> omega⟩
  · refine hR _ _ ⟨?_, hf1⟩
    by_cases hb : bagOk V
    · have hG : goodV V = V := by rw [goodV, if_pos hb]
      rw [hG]
      have : ¬ (i : Int) < V.length := fun hq => by
        simp [bagE_ok hb, hq] at h
      rw [List.take_of_length_le (by omega)]
    · have hG : goodV V = [] := by rw [goodV, if_neg hb]
      rw [hG]
      simp
theorem l7put (hr : Rows' Q_api_Vote w.heap (.slice a0 V.length c0) V) (hc : V.length ≤ c0) (hb : bagOk V) (k : Vec 32) {n : Int} (hn0 : 0 ≤ n) (hn : n ≤ 1048576) (hl : V.length ≤ 1000000) :
    cal P f_ref07_put [.slice a0 V.length c0, kv k, .int .i64 n] w fun r w' => Sep w w' [rows Q_api_Vote r (putM V k n)] := by
  refine s_ref07_put fun R hR => ?_
  unfold c_ref07_put
  refine bxQ (Sep.start w) fun g4 w1 hs1 => ?_
  try simp only [fx, Nat.reduceAdd, forall_const]
  rw [cnd_bool]
  refine ⟨fun h => ?_, fun h => ?_⟩
  · have h : n = 0 := by simpa using h
    refine rows_app S_sl_api_Vote U_sl_api_Vote (by simp) (Sep.nilR (q := Q_api_Vote) hs1) (hr.fr hs1.fr0) (vtOne _) (by simp; omega) (by simp; omega) fun v2 w2 hs2 => ?_
    rw [List.nil_append] at hs2
    refine hR _ _ ?_
    unfold putM
    rw [if_pos h]
    exact hs2.d1
  have hn1 : n ≠ 0 := by simpa using h
  refine ⟨fun y z => ∃ i : Nat, y = .int .i64 i ∧ i ≤ V.length ∧ (∀ j u, j < i → V[j]? = some u → ltV u.1 k = true) ∧ Sep w z [blk g4 (Rdr.cells (rVec 32) k).toArray T_api_ID], fun y _ => (V.length - RowKit.intOf y).toNat, ⟨0, rfl, by omega, fun j u hj => by omega, hs1⟩, ?_⟩
  rintro _ z ⟨i, rfl, hi, hlt, hz⟩ -
  refine drH_S hz fun z1 hz1 _ => ?_
  have hro : ∀ u, Sep w u [blk g4 (Rdr.cells (rVec 32) k).toArray T_api_ID] → Rows' Q_api_Vote u.heap (.slice a0 V.length c0) V := fun u hu => hr.fr hu.fr0
  rw [bi_lss]
  obtain ⟨c, hcd⟩ : ∃ c : Bool, c = (match V[i]? with | some u => ltV u.1 k | none => false) := ⟨_, rfl⟩
  refine jn1_gif (d := decide ((i : Int) < V.length)) c (fun u => Sep w u [blk g4 (Rdr.cells (rVec 32) k).toArray T_api_ID]) (fun hd => ?_) (fun hd => ⟨?_, hz1⟩) ?_
  · have hlt2 : i < V.length := by simp at hd; omega
    obtain ⟨a, ha⟩ : ∃ a, V[i]? = some a := ⟨_, List.getElem?_eq_getElem hlt2⟩
    refine rdS_vtI hz1 hro ha .i64 ?_
    refine ⟨kv k, fun u hu => (L_api_ID (Sep.blk hu) _).mpr rfl, ?_⟩
    refine efS_i (cal_i (l7Less a.1 k) ?_)
    rintro _ z2 ⟨rfl, hf2⟩
    have hz2 := hz1.old hf2
    rw [ha] at hcd
    exact ⟨hz2, by rw [hcd], hz2⟩
  · rw [hcd, List.getElem?_eq_none (by simp at hd; omega)]
  intro y z2 hy hz2 _
  rw [hy, cnd_bool]
  refine ⟨fun h2 => ?_, fun h2 => ?_⟩
  · have hlt2 : i < V.length := by
      rcases Nat.lt_or_ge i V.length with hq | hq
      · exact hq
      · rw [List.getElem?_eq_none hq] at hcd
        rw [hcd] at h2
        cases h2
    rw [bi_add, wi64 (by omega) (by omega)]
    refine ⟨⟨i + 1, by simp, by omega, fun j u hj hu => ?_, hz2⟩, by simp [RowKit.intOf] <;> omega⟩
    by_cases hji : j < i
    · exact hlt j u hji hu
    · obtain rfl : j = i := by omega
      rw [hu] at hcd
      exact hcd.symm.trans h2
  · have hah : ahead V k = i := ahead_at hlt hi fun u hu => by rw [hu] at hcd; exact hcd.symm.trans h2
    rw [slc_to (by omega)]
    have htk : (V.take i).length = i := by rw [List.length_take]; omega
    have hrt : ∀ {u : World}, Fr [] w u → Rows' Q_api_Vote u.heap (.slice a0 i c0) (V.take i) := fun hf => Rows'.take (hr.fr hf) hi c0
    refine rows_app S_sl_api_Vote U_sl_api_Vote (by simp) (Sep.nilR (q := Q_api_Vote) hz2) (hrt hz2.fr0) (vtOne _) (by rw [htk]; simp; omega) (by rw [htk]; simp; omega) fun v3 z3 hz3 => ?_
    rw [List.nil_append] at hz3
    obtain ⟨⟨n', i'⟩, hni⟩ : ∃ pr : Int × Nat, pr = (match V[i]? with | some u => if u.1 = k then (n + u.2, i + 1) else (n, i) | none => (n, i)) := ⟨_, rfl⟩
    have hput : putM V k n = V.take i ++ ((k, n') :: V.drop i') := by
      unfold putM
      rw [if_neg hn1, hah]
      congr 1
      cases hu : V[i]? with
      | none =>
        rw [hu] at hni
        simp only [Prod.mk.injEq] at hni
        have hq : V.drop i = [] := List.drop_eq_nil_of_le (List.getElem?_eq_none_iff.1 hu)
        rw [hni.1, hni.2, hq]
      | some u =>
        rw [hu] at hni
        simp only at hni ⊢
        split at hni
        · rename_i hk
          simp only [Prod.mk.injEq] at hni
          rw [if_pos hk, hni.1, hni.2]
        · rename_i hk
          simp only [Prod.mk.injEq] at hni
          rw [if_neg hk, hni.1, hni.2]
    have hi' : i' ≤ V.length := by
      cases hu : V[i]? with
      | none => rw [hu] at hni; simp only [Prod.mk.injEq] at hni; omega
      | some u =>
        have := (List.getElem?_eq_some_iff.1 hu).1
        rw [hu] at hni
        simp only at hni
        split at hni <;> (simp only [Prod.mk.injEq] at hni; omega)
    refine ⟨fun a b z => a = .int .i64 n' ∧ b = .int .i64 i' ∧ Sep w z [rows Q_api_Vote v3 (V.take i), blk g4 (Rdr.cells (rVec 32) k).toArray T_api_ID], ?_, ?_⟩
    · refine drw_s hz3 fun z4 hz4 _ => ?_
      rw [bi_lss]
      obtain ⟨c2, hc2⟩ : ∃ c2 : Bool, c2 = (match V[i]? with | some u => decide (u.1 = k) | none => false) := ⟨_, rfl⟩
      refine jn1_gif (d := decide ((i : Int) < V.length)) c2 (fun u => Sep w u [rows Q_api_Vote v3 (V.take i), blk g4 (Rdr.cells (rVec 32) k).toArray T_api_ID]) (fun hd => ?_) (fun hd => ⟨?_, hz4⟩) ?_
      · have hlt2 : i < V.length := by simp at hd; omega
        obtain ⟨a, ha⟩ : ∃ a, V[i]? = some a := ⟨_, List.getElem?_eq_getElem hlt2⟩
        have hra : Rows' Q_api_Vote z4.heap (.slice a0 V.length c0) V := hr.fr hz4.fr0
        obtain ⟨g, o, c, hform⟩ := hra.form (by decide) ha
        cases hform
        rw [show (33 : Nat) = (Q_api_Vote).size from rfl, ixs_mk _ _ _ _ _ _ _ _ (by omega) (by omega), Int.toNat_natCast]
        try simp only [fx, Nat.reduceAdd, forall_const]
        refine (LA_api_Vote__ID (At.of (by decide) hra ha) _).mpr ?_
        simp only [L_api_ID (Sep.blk hz4.p1), eq_api_ID]
        rw [ha] at hc2
        exact ⟨by rw [hc2], hz4⟩
      · rw [hc2, List.getElem?_eq_none (by simp at hd; omega)]
      intro y5 z5 hy5 hz5 _
      rw [hy5, cnd_bool]
      refine ⟨fun h3 => ?_, fun h3 => ?_⟩
      · obtain ⟨u, hu, huk⟩ : ∃ u, V[i]? = some u ∧ u.1 = k := by
          cases hu : V[i]? with
          | none =>
            rw [hu] at hc2
            exact Bool.noConfusion (show false = true from hc2.symm.trans h3)
          | some u =>
            rw [hu] at hc2
            exact ⟨u, rfl, of_decide_eq_true (hc2.symm.trans h3)⟩
        rw [hu] at hni
        simp only [if_pos huk, Prod.mk.injEq] at hni
        have hub := hb i u hu
        have hs0 := hb.sum i
        refine ld_vtN (hr.fr hz5.fr0) hu .i64 ?_
        try simp only [fx, Nat.reduceAdd, forall_const]
        rw [wi64 (by omega) (by omega), wi64 (by omega) (by omega)]
        exact ⟨by rw [hni.1], by rw [hni.2]; simp, hz5⟩
      · have hno : (n', i') = (n, i) := by
          rw [hni]
          cases hu : V[i]? with
          | none => rfl
          | some u =>
            rw [hu] at hc2
            have : ¬ u.1 = k := of_decide_eq_false (hc2.symm.trans h3)
            simp only [if_neg this]
        simp only [Prod.mk.injEq] at hno
        exact ⟨by rw [hno.1], by rw [hno.2], hz5⟩
    rintro _ _ z6 ⟨rfl, rfl, hz6⟩ _
    refine drH_S hz6 fun z7 hz7 _ => ?_
    refine ⟨kv k, fun u hu => (L_api_ID (Sep.blk hu.p1) _).mpr rfl, ?_⟩
    refine ⟨.agg (Rdr.cells Q_api_Vote (k, n')).toArray, fun u hu => by rw [B_api_Vote_0_1], ?_⟩
    change slc _ _ _ _ _
    rw [slc_from hi']
    refine efC_efP (rows_lit (q := Q_api_Vote) (l := [((k, n') : Vt)]) (V := fun c => .agg (Rdr.cells Q_api_Vote c).toArray) hz7 S_sl_api_Vote (fun a => rfl) rfl rfl (by decide) (by decide) fun g9 z8 hz8 => ?_)
    refine efC_efP (rows_app S_sl_api_Vote U_sl_api_Vote (by simp) hz8.p1 (Sep.rows hz8) (vtOne _) (by simp only [htk, List.length_singleton]; omega) (by simp only [htk, List.length_singleton]; omega) fun v9 z9 hz9 => ?_)
    have hrd := Rows'.drop (hr.fr hz9.fr0) (k := i') hi' hc (c0 - i')
    have hdl : (V.drop i').length = V.length - i' := List.length_drop ..
    refine efC_efP (rows_app S_sl_api_Vote U_sl_api_Vote (by simp) hz9 hrd (vtOne _) (by simp only [List.length_append, htk, List.length_singleton, hdl]; omega) (by simp only [List.length_append, htk, List.length_singleton, hdl]; omega) fun v10 z10 hz10 => ?_)
    refine hR _ _ ?_
    rw [hput]
    simp only [List.append_assoc, List.singleton_append] at hz10
    exact hz10.d1.d1
theorem l7Add (hr : Rows' Q_api_Vote w.heap (.slice a0 V.length c0) V) (hc : V.length ≤ c0) (k : Vec 32) (n : Int) (hl : V.length ≤ 1000000) (hn : n ≤ 9223372036854775807) :
    cal P f_ref07_Add [.slice a0 V.length c0, kv k, .int .i64 n] w fun r w' => ∃ v', r = .tuple #[v', .int .i64 (addB V k n).2] ∧ Sep w w' [rows Q_api_Vote v' (addB V k n).1] := by
  refine s_ref07_Add fun R hR => ?_
  unfold c_ref07_Add
  refine bxQ (Sep.start w) fun g4 w1 hs1 => ?_
  refine cal_i (l7Check (hr.fr hs1.fr0) (by omega)) ?_
  rintro _ w2 ⟨rfl, hf2⟩
  have hs2 := hs1.old hf2
  try simp only [fx, Nat.reduceAdd, forall_const]
  have hnil : ∀ {z : World} {e : Int}, addB V k n = ([], e) → Sep w z [blk g4 (Rdr.cells (rVec 32) k).toArray T_api_ID] → R (.tuple #[.slice none 0 0, .int .i64 e]) z := fun he hz =>
    hR _ _ ⟨.slice none 0 0, by rw [he], by rw [he]; exact (Sep.nilR hz).d1⟩
  rw [cnd_bool]
  refine ⟨fun h => ?_, fun h => ?_⟩
  · have h : bagE V ≠ 0 := by simpa using h
    exact hnil (by rw [addB, if_pos h]) hs2
  have hE : ¬ bagE V ≠ 0 := by simpa using h
  have hb : bagOk V := bagE_zero.1 (by simpa using h)
  rw [cnd_bool]
  refine ⟨fun h => ?_, fun h => ?_⟩
  · have h : n < 0 := by simpa using h
    exact hnil (by rw [addB, if_neg hE, if_pos h]) hs2
  have hn0 : ¬ n < 0 := by simpa using h
  refine cal_i (l7Total (hr.fr hs2.fr0) hl) ?_
  rintro _ w3 ⟨rfl, hf3⟩
  have hs3 := hs2.old hf3
  have hG : goodV V = V := by rw [goodV, if_pos hb]
  have hsm := hb.sum V.length
  rw [List.take_of_length_le (Nat.le_refl _)] at hsm
  rw [hG]
  try simp only [fx, Nat.reduceAdd, forall_const]
  rw [wi64 (by omega) (by omega), cnd_bool]
  refine ⟨fun h => ?_, fun h => ?_⟩
  · have h : 1048576 - sumV V < n := by simpa using h
    exact hnil (by rw [addB, if_neg hE, if_neg hn0, if_pos h]) hs3
  have hn1 : ¬ 1048576 - sumV V < n := by simpa using h
  simp only [L_api_ID (Sep.blk hs3)]
  refine cal_i (l7put (hr.fr hs3.fr0) hc hb k (by omega) (by omega) hl) ?_
  rintro v4 w4 hs4
  replace hs4 := hs3.join hs4
  have he : addB V k n = (putM V k n, 0) := by rw [addB, if_neg hE, if_neg hn0, if_neg hn1]
  exact hR _ _ ⟨v4, by rw [he], by rw [he]; exact hs4.d1⟩
end
end Go.Fx
set_option linter.unusedVariables false
set_option linter.unusedSimpArgs false
namespace Go.Fx
/-- A block of a tree: its name, itself, where its data stand, when it came. -/
abbrev TN := Vec 32 × Blk × Value × Nat
def TN.ent (x : TN) : Ent 32 := (x.1, bq x.2.1 x.2.2.1, x.2.2.2)
/-- A tree's head. -/
structure Tr where
  root : Vec 32
  ht : Int
  most : Int
def nodeOf (k : Vec 32) (N : List TN) : Option TN := N.find? fun x => decide (k = x.1)
def blkOf (k : Vec 32) (N : List TN) : Option Blk := (nodeOf k N).map (·.2.1)
theorem getE_node (k : Vec 32) : ∀ N : List TN, getE k (N.map TN.ent) = (nodeOf k N).map fun x => bq x.2.1 x.2.2.1
  | [] => rfl
  | x :: N => by
    unfold getE nodeOf
    rw [List.map_cons, List.find?_cons, List.find?_cons]
    by_cases h : k = x.1
    · simp [h, TN.ent]
    · have e1 : decide (k = (TN.ent x).1) = false := decide_eq_false h
      have e2 : decide (k = x.1) = false := decide_eq_false h
      rw [e1, e2]
      exact getE_node k N
theorem KT : KeyT P T_api_ID T_uint8 32 := ⟨U_api_ID, U_uint8, by kernel_rfl, by kernel_rfl, EQ_api_ID⟩
theorem zB (w : World) : (zeroValue T_api_Block).run P w = .ok (bq Blk.none (.slice none 0 0)) w := by kernel_rfl
/-- A map's entries, in whatever order they came, are the blocks. -/
structure EOk (E : List (Ent 32)) (N : List TN) (c : Nat) : Prop where
  pm : (E.map (·.1)).Perm (N.map (·.1))
  nd : (E.map (·.1)).Nodup
  get : ∀ k, getE k E = getE k (N.map TN.ent)
  bn : (E.map (·.2.2)).Nodup
  lt : ∀ x ∈ E, x.2.2 < c
theorem EOk.nil (c : Nat) : EOk [] [] c := ⟨List.Perm.refl _, by simp, fun _ => rfl, by simp, fun x hx => by cases hx⟩
theorem EOk.len {E : List (Ent 32)} {N : List TN} {c : Nat} (h : EOk E N c) : E.length = N.length := by
  have := h.pm.length_eq
  simpa using this
/-- A map of blocks. -/
def mpN (gm : Nat) (N : List TN) (c : Nat) : Asn := Asn.ex fun E => (Asn.pr (EOk E N c)).star (mp gm E c)
theorem mpN_open {w0 w : World} {As : List Asn} {gm c : Nat} {N : List TN} (h : Sep w0 w (mpN gm N c :: As)) : ∃ E, EOk E N c ∧ Sep w0 w (mp gm E c :: As) := by
  unfold mpN at h
  rw [Sep_ex] at h
  obtain ⟨E, h⟩ := h
  rw [Sep_star, Sep_pr] at h
  exact ⟨E, h.1, h.2⟩
theorem mpN_close {w0 w : World} {As : List Asn} {gm c : Nat} {N : List TN} {E : List (Ent 32)} (hE : EOk E N c) (h : Sep w0 w (mp gm E c :: As)) : Sep w0 w (mpN gm N c :: As) := by
  unfold mpN
  rw [Sep_ex]
  exact ⟨E, by rw [Sep_star, Sep_pr]; exact ⟨hE, h⟩⟩
theorem getE_mem {n : Nat} {k : Vec n} {l : List (Ent n)} : (getE k l).isSome = true ↔ k ∈ l.map (·.1) := by
  unfold getE
  rw [Option.isSome_map, List.find?_isSome]
  constructor
  · rintro ⟨x, hx, h⟩
    have : k = x.1 := by simpa using h
    exact this ▸ List.mem_map_of_mem hx
  · intro h
    obtain ⟨x, hx, rfl⟩ := List.mem_map.1 h
    exact ⟨x, hx, by simp⟩
theorem getE_snoc {n : Nat} {k : Vec n} {H : List (Ent n)} {x : Ent n} : getE k (H ++ [x]) = (getE k H).or (if k = x.1 then some x.2.1 else none) := by
  unfold getE
  rw [List.find?_append]
  cases hf : List.find? (fun x => decide (k = x.1)) H with
  | some y => simp
  | none =>
    by_cases h : k = x.1 <;> simp [h]
theorem getE_filter {n : Nat} (p : Vec n → Bool) (k : Vec n) : ∀ l : List (Ent n), getE k (l.filter fun x => p x.1) = if p k = true then getE k l else none
  | [] => by simp [getE]
  | x :: N => by
    have ih := getE_filter p k N
    unfold getE at ih ⊢
    by_cases hk : k = x.1
    · subst hk
      by_cases hp : p x.1 = true
      · rw [List.filter_cons_of_pos (p := fun x : Ent n => p x.1) hp, if_pos hp]
        simp
      · rw [List.filter_cons_of_neg (p := fun x : Ent n => p x.1) hp, ih, if_neg hp, if_neg hp]
    · rw [List.find?_cons_of_neg (by simpa using hk), ← ih]
      by_cases hp : p x.1 = true
      · rw [List.filter_cons_of_pos (p := fun x : Ent n => p x.1) hp, List.find?_cons_of_neg (by simpa using hk)]
      · rw [List.filter_cons_of_neg (p := fun x : Ent n => p x.1) hp]
theorem getE_nin {n : Nat} {k : Vec n} {H : List (Ent n)} (h : k ∉ H.map (·.1)) : getE k H = none := by
  cases hg : getE k H with
  | none => rfl
  | some x => exact absurd (getE_mem.1 (by rw [hg]; rfl)) h
theorem EOk.add {E : List (Ent 32)} {N : List TN} {c c' : Nat} {k : Vec 32} {b : Blk} {v : Value} (h : EOk E N c) (hk : getE k (N.map TN.ent) = none) : EOk (E ++ [(k, bq b v, c)]) (N ++ [(k, b, v, c')]) (c + 1) := by
  have hkE : k ∉ E.map (·.1) := fun hm => by
    have := getE_mem.2 hm
    rw [h.get, hk] at this
    cases this
  refine ⟨?_, ?_, fun k' => ?_, ?_, fun x hx => ?_⟩
  · rw [List.map_append, List.map_append]
    exact h.pm.append_right _
  · rw [List.map_append, List.nodup_append]
    refine ⟨h.nd, by simp, fun x hx y hy he => ?_⟩
    simp only [List.map_cons, List.map_nil, List.mem_singleton] at hy
    subst hy
    exact hkE (he ▸ hx)
  · rw [List.map_append, List.map_singleton, getE_snoc, getE_snoc, h.get]
    rfl
  · rw [List.map_append, List.nodup_append]
    refine ⟨h.bn, by simp, fun x hx y hy he => ?_⟩
    simp only [List.map_cons, List.map_nil, List.mem_singleton] at hy
    subst hy
    obtain ⟨z, hz, rfl⟩ := List.mem_map.1 hx
    have := h.lt z hz
    omega
  · rcases List.mem_append.1 hx with hx | hx
    · have := h.lt x hx; omega
    · obtain rfl : x = (k, bq b v, c) := by simpa using hx
      show c < c + 1
      omega
theorem EOk.filter {E : List (Ent 32)} {N : List TN} {c : Nat} (p : Vec 32 → Bool) (h : EOk E N c) : EOk (E.filter fun x => p x.1) (N.filter fun x => p x.1) c := by
  have e1 : (E.filter fun x => p x.1).map (·.1) = (E.map (·.1)).filter p := by rw [List.filter_map]; rfl
  have e2 : (N.filter fun x => p x.1).map (·.1) = (N.map (·.1)).filter p := by rw [List.filter_map]; rfl
  have e3 : (N.filter fun x => p x.1).map TN.ent = (N.map TN.ent).filter fun x => p x.1 := by rw [List.filter_map]; rfl
  refine ⟨by rw [e1, e2]; exact h.pm.filter p, by rw [e1]; exact h.nd.sublist List.filter_sublist, fun k => ?_, h.bn.sublist (List.filter_sublist.map _), fun x hx => h.lt x (List.mem_filter.1 hx).1⟩
  rw [getE_filter, e3, getE_filter, h.get]
abbrev tq (t : Tr) (gm : Nat) (ov : Value) : Bool × Vec 32 × Int × Int × Value × Value := (true, t.root, t.ht, t.most, .map (some gm), ov)
structure TrR (h : Heap) (g gm : Nat) (ov : Value) (t : Tr) (N : List TN) (c : Nat) : Prop where
  cell : ∃ T fr, h[g]? = some (.cells (Rdr.cells Q_tree_Tree (tq t gm ov)).toArray T fr)
  map : ∃ E, EOk E N c ∧ h[gm]? = some (.map (ents E) c)
  ord : Rows' (rVec 32) h ov (N.map (·.1))
  dat : ∀ x ∈ N, RdB h x.2.2.1 x.2.1.d
section
variable {w0 w w' : World} {As : List Asn} {g gm c : Nat} {ov : Value} {t : Tr} {N : List TN}
theorem TrR.fr (h : TrR w.heap g gm ov t N c) (hf : Fr [] w w') : TrR w'.heap g gm ov t N c := by
  obtain ⟨T, fr, hc⟩ := h.cell
  obtain ⟨E, hE, hm⟩ := h.map
  exact ⟨⟨T, fr, hf.blk hc (by simp)⟩, ⟨E, hE, hf.blk hm (by simp)⟩, h.ord.fr hf, fun x hx => (h.dat x hx).fr hf (off_nil _)⟩
theorem TrR.look (hr : TrR w.heap g gm ov t N c) (k : Vec 32) (K : Value → Prop) : rdP P (Instr.lookup T_map_api_ID_api_Block (.map (some gm)) (kv k) true) w K =
    K (.tuple #[(getE k (N.map TN.ent)).getD (bq Blk.none (.slice none 0 0)), .bool (getE k (N.map TN.ent)).isSome]) := by
  obtain ⟨E, hE, hm⟩ := hr.map
  rw [lookup_map U_map_api_ID_api_Block KT (zB w) hm k, hE.get]
theorem TrR.look1 (hr : TrR w.heap g gm ov t N c) (k : Vec 32) (K : Value → Prop) : rdP P (Instr.lookup T_map_api_ID_api_Block (.map (some gm)) (kv k) false) w K =
    K ((getE k (N.map TN.ent)).getD (bq Blk.none (.slice none 0 0))) := by
  obtain ⟨E, hE, hm⟩ := hr.map
  rw [lookup_map1 U_map_api_ID_api_Block KT (zB w) hm k, hE.get]
theorem TrR.mlen {ty : TypeId} (hr : TrR w.heap g gm ov t N c) (hl : N.length ≤ 9223372036854775807) (K : Value → Prop) : rdP P (Builtin.len_ #[T_map_api_ID_api_Block] ty #[.map (some gm)]) w K = K (.int .i64 N.length) := by
  obtain ⟨E, hE, hm⟩ := hr.map
  rw [len_map U_map_api_ID_api_Block hm (by rw [hE.len]; exact hl), hE.len]
theorem Sep.tr (h : Sep w0 w As) (hr : TrR w0.heap g gm ov t N c) : TrR w.heap g gm ov t N c := hr.fr h.1
theorem tnone_spec (hr : TrR w.heap g gm ov t N c) : cal P f_tree_Tree_none [.pointer (some ⟨g, 0, none⟩)] w fun r w' => r = .bool false ∧ w = w' := by
  refine s_tree_Tree_none fun R hR => ?_
  unfold c_tree_Tree_none
  obtain ⟨T, fr, hc⟩ := hr.cell
  simp only [fx, Nat.reduceAdd, forall_const, Option.isNone_some, L_tree_Tree hc, L_tree_Tree__made hc, L_tree_Tree__root hc, L_tree_Tree__height hc, L_tree_Tree__most hc, L_tree_Tree__blocks hc, L_tree_Tree__order hc]
  exact hR _ _ ⟨rfl, rfl⟩
/-- What a lookup of a name gives. -/
def nb (k : Vec 32) (N : List TN) : Blk × Value := ((nodeOf k N).map fun x => (x.2.1, x.2.2.1)).getD (Blk.none, .slice none 0 0)
theorem nb_get (k : Vec 32) (N : List TN) : (getE k (N.map TN.ent)).getD (bq Blk.none (.slice none 0 0)) = bq (nb k N).1 (nb k N).2 := by
  rw [getE_node]
  unfold nb
  cases nodeOf k N <;> rfl
theorem nb_is (k : Vec 32) (N : List TN) : (getE k (N.map TN.ent)).isSome = (blkOf k N).isSome := by
  rw [getE_node]
  unfold blkOf
  cases nodeOf k N <;> rfl
theorem nb_rd (hr : TrR w.heap g gm ov t N c) (k : Vec 32) : RdB w.heap (nb k N).2 (nb k N).1.d := by
  unfold nb
  cases h : nodeOf k N with
  | none => exact rdNil w
  | some x => exact hr.dat x (List.mem_of_find?_eq_some h)
theorem nb_blk {k : Vec 32} {N : List TN} : (blkOf k N = none ∧ (nb k N).1 = Blk.none) ∨ blkOf k N = some (nb k N).1 := by
  unfold nb blkOf
  cases nodeOf k N with
  | none => exact .inl ⟨rfl, rfl⟩
  | some x => exact .inr rfl
/-- How high a name stands; whether it is there. -/
def levH (t : Tr) (N : List TN) (k : Vec 32) : Int := if k = t.root then t.ht else match blkOf k N with
  | some b => b.h
  | none => 0
def has (t : Tr) (N : List TN) (k : Vec 32) : Bool := decide (k = t.root) || (blkOf k N).isSome
theorem level_spec (hr : TrR w.heap g gm ov t N c) (k : Vec 32) : cal P f_tree_Tree_level [.pointer (some ⟨g, 0, none⟩), kv k] w fun r w' => r = .tuple #[.int .i64 (levH t N k), .bool (has t N k)] ∧ Fr [] w w' := by
  refine s_tree_Tree_level fun R hR => ?_
  unfold c_tree_Tree_level
  refine bxQ (Sep.start w) fun g3 w1 hs1 => ?_
  refine cal_i (tnone_spec (hs1.tr hr)) ?_
  rintro _ _ ⟨rfl, rfl⟩
  simp only [fx, Nat.reduceAdd, forall_const]
  refine drw_s hs1 fun w2 hs2 _ => ?_
  obtain ⟨T, fr, hc⟩ := (hs2.tr hr).cell
  simp only [fx, Nat.reduceAdd, forall_const, L_api_ID hs2.blk, L_tree_Tree hc, L_tree_Tree__made hc, L_tree_Tree__root hc, L_tree_Tree__height hc, L_tree_Tree__most hc, L_tree_Tree__blocks hc, L_tree_Tree__order hc, eq_api_ID]
  rw [cnd_bool]
  refine ⟨fun h => ?_, fun h => ?_⟩
  · have h : k = t.root := by simpa using h
    refine hR _ _ ⟨?_, hs2.fr0⟩
    unfold levH has
    rw [if_pos h, decide_eq_true h]
    rfl
  · have h : ¬ k = t.root := by simpa using h
    refine drH_S hs2 fun w3 hs3 _ => ?_
    refine rdS_ld (v := .map (some gm)) (fun u hu K hk => by
      obtain ⟨T, fr, hc⟩ := (hu.tr hr).cell
      exact (L_tree_Tree__blocks hc K).mpr hk) ?_
    refine ⟨kv k, fun u hu => (L_api_ID hu.blk _).mpr rfl, ?_⟩
    refine ⟨.tuple #[(getE k (N.map TN.ent)).getD (bq Blk.none (.slice none 0 0)), .bool (getE k (N.map TN.ent)).isSome], fun u hu => ((hu.tr hr).look k _).mpr rfl, ?_⟩
    rw [nb_get, nb_is]
    simp only [fx, Nat.reduceAdd, forall_const]
    refine efS_i (alloc_s hs3 (A_api_Block w3) fun g4 w4 hs4 => ⟨hs4.tail, ?_⟩)
    refine efC_stN (St_api_Block hs4 (one_api_Block (nb_rd (hs4.tr hr) k).one) fun w5 hs5 => ?_)
    simp only [fx, Nat.reduceAdd, forall_const, L_api_Block hs5.blk, L_api_Block__Parent hs5.blk, L_api_Block__Height hs5.blk, L_api_Block__Data hs5.blk]
    refine hR _ _ ⟨?_, hs5.fr0⟩
    unfold levH has
    rw [if_neg h, decide_eq_false h, Bool.false_or]
    rcases nb_blk (k := k) (N := N) with ⟨h1, h2⟩ | h1
    · rw [h1, h2]; rfl
    · rw [h1]
theorem Has_spec (hr : TrR w.heap g gm ov t N c) (k : Vec 32) : cal P f_tree_Tree_Has [.pointer (some ⟨g, 0, none⟩), kv k] w fun r w' => r = .bool (has t N k) ∧ Fr [] w w' := by
  refine s_tree_Tree_Has fun R hR => ?_
  unfold c_tree_Tree_Has
  refine bxQ (Sep.start w) fun g3 w1 hs1 => ?_
  simp only [L_api_ID hs1.blk]
  refine cal_i (level_spec (hs1.tr hr) k) ?_
  rintro _ w2 ⟨rfl, hf2⟩
  simp only [fx, Nat.reduceAdd, forall_const]
  exact hR _ _ ⟨rfl, (hs1.old hf2).fr0⟩
theorem Root_spec (hr : TrR w.heap g gm ov t N c) : cal P f_tree_Tree_Root [.pointer (some ⟨g, 0, none⟩)] w fun r w' => r = .tuple #[kv t.root, .int .i64 t.ht] ∧ Fr [] w w' := by
  refine s_tree_Tree_Root fun R hR => ?_
  unfold c_tree_Tree_Root
  refine alloc_s (Sep.start w) (A_api_ID w) fun g3 w1 hs1 => ?_
  refine cal_i (tnone_spec (hs1.tr hr)) ?_
  rintro _ _ ⟨rfl, rfl⟩
  simp only [fx, Nat.reduceAdd, forall_const]
  refine ⟨fun u => ∃ v, Sep w u [blk g3 (Rdr.cells (rVec 32) v).toArray T_api_ID], ⟨_, hs1.drew _⟩, ?_⟩
  refine ⟨kv t.root, fun u ⟨v, hu⟩ => by
    obtain ⟨T, fr, hc⟩ := (hu.tr hr).cell
    exact (L_tree_Tree__root hc _).mpr rfl, ?_⟩
  refine rdS_ld (v := .int .i64 t.ht) (fun u ⟨v, hu⟩ K hk => by
    obtain ⟨T, fr, hc⟩ := (hu.tr hr).cell
    exact (L_tree_Tree__height hc K).mpr hk) ?_
  refine efS_i (St_api_ID (hs1.drew _) fun w3 hs3 => ⟨⟨_, hs3⟩, ?_⟩)
  simp only [L_api_ID hs3.blk]
  exact hR _ _ ⟨rfl, hs3.fr0⟩
end
end Go.Fx
set_option linter.unusedVariables false
set_option linter.unusedSimpArgs false
namespace Go.Fx
/-- Each block's parent is there, one lower; no name twice. -/
structure TrW (t : Tr) (N : List TN) : Prop where
  up : ∀ k b, blkOf k N = some b → has t N b.p = true ∧ b.h = levH t N b.p + 1
  above : ∀ k b, blkOf k N = some b → t.ht < b.h
  noroot : blkOf t.root N = none
  small : ∀ x ∈ N, x.2.1.d.length ≤ 200
/-- The next name up. -/
def upOf (k : Vec 32) (N : List TN) : Vec 32 := (nb k N).1.p
/-- The way up: no more steps than the height tells. -/
def wayUp (t : Tr) (N : List TN) : Nat → Vec 32 → List (Vec 32)
  | 0, _ => []
  | n + 1, k => if k = t.root then [] else k :: wayUp t N n (upOf k N)
def hgt (t : Tr) (N : List TN) (k : Vec 32) : Nat := (levH t N k - t.ht).toNat
theorem has_blk {t : Tr} {N : List TN} {k : Vec 32} (h : has t N k = true) (hk : k ≠ t.root) : blkOf k N = some (nb k N).1 := by
  unfold has at h
  rw [decide_eq_false hk, Bool.false_or] at h
  rcases nb_blk (k := k) (N := N) with ⟨h1, _⟩ | h1
  · rw [h1] at h; cases h
  · exact h1
theorem up_has {t : Tr} {N : List TN} {k : Vec 32} (hw : TrW t N) (h : has t N k = true) (hk : k ≠ t.root) : has t N (upOf k N) = true ∧ hgt t N k = hgt t N (upOf k N) + 1 := by
  have hb := has_blk h hk
  obtain ⟨h1, h2⟩ := hw.up k _ hb
  have h3 := hw.above k _ hb
  refine ⟨h1, ?_⟩
  have e : levH t N k = (nb k N).1.h := by
    unfold levH
    rw [if_neg hk, hb]
  have h4 : t.ht ≤ levH t N (upOf k N) := by
    by_cases hr : upOf k N = t.root
    · unfold levH; rw [if_pos hr]; omega
    · have hb2 := has_blk (show has t N (upOf k N) = true from h1) hr
      have := hw.above _ _ hb2
      unfold levH
      rw [if_neg hr, hb2]
      simp only
      omega
  unfold hgt
  rw [e, h2]
  show (levH t N (upOf k N) + 1 - t.ht).toNat = _
  omega
section
variable {w0 w w' : World} {As : List Asn} {g gm c : Nat} {ov : Value} {t : Tr} {N : List TN}
theorem Len_spec (hr : TrR w.heap g gm ov t N c) (hl : N.length ≤ 1000000) : cal P f_tree_Tree_Len [.pointer (some ⟨g, 0, none⟩)] w fun r w' => r = .int .i64 N.length ∧ w = w' := by
  refine s_tree_Tree_Len fun R hR => ?_
  unfold c_tree_Tree_Len
  refine cal_i (tnone_spec hr) ?_
  rintro _ _ ⟨rfl, rfl⟩
  obtain ⟨T, fr, hc⟩ := hr.cell
  simp only [fx, Nat.reduceAdd, forall_const, L_tree_Tree hc, L_tree_Tree__made hc, L_tree_Tree__root hc, L_tree_Tree__height hc, L_tree_Tree__most hc, L_tree_Tree__blocks hc, L_tree_Tree__order hc]
  rw [hr.mlen (by omega)]
  exact hR _ _ ⟨rfl, rfl⟩
theorem bvs_inj : ∀ {a b : List UInt8}, bvs a = bvs b → a = b
  | [], [], _ => rfl
  | [], _ :: _, h => by simp [bvs] at h
  | _ :: _, [], h => by simp [bvs] at h
  | x :: a, y :: b, h => by
    simp only [bvs, List.map_cons, List.cons.injEq, bv, Value.int.injEq, true_and] at h
    have hx : x = y := UInt8.toNat_inj.1 (by have := h.1; omega)
    rw [hx, bvs_inj (a := a) (b := b) h.2]
/-- The name that a block of memory holds. -/
noncomputable def keyAt (g : Nat) (z : World) : Vec 32 :=
  open Classical in if h : ∃ k : Vec 32, z.heap[g]? = some (.cells (Rdr.cells (rVec 32) k).toArray T_api_ID (0, 0)) then Classical.choose h else vz 32
theorem keyAt_eq {g : Nat} {z : World} {k : Vec 32} (h : z.heap[g]? = some (.cells (Rdr.cells (rVec 32) k).toArray T_api_ID (0, 0))) : keyAt g z = k := by
  have hx : ∃ k : Vec 32, z.heap[g]? = some (.cells (Rdr.cells (rVec 32) k).toArray T_api_ID (0, 0)) := ⟨k, h⟩
  unfold keyAt
  rw [dif_pos hx]
  have h2 := Classical.choose_spec hx
  generalize Classical.choose hx = k' at h2 ⊢
  rw [h] at h2
  simp only [Option.some.injEq, Obj.cells.injEq, and_true] at h2
  have h3 : bvs k.1 = bvs k'.1 := by
    have h4 : (Rdr.cells (rVec 32) k) = Rdr.cells (rVec 32) k' := by
      have := congrArg Array.toList h2
      simpa using this
    exact h4
  exact (Subtype.ext (bvs_inj h3)).symm
/-- On the way up from a name stands another one. -/
def under (t : Tr) (N : List TN) (a b : Vec 32) : Bool := has t N a && (has t N b && (decide (b = t.root) || decide (b ∈ wayUp t N (hgt t N a) a)))
theorem wayUp_root (t : Tr) (N : List TN) (n : Nat) : wayUp t N n t.root = [] := by
  cases n <;> simp [wayUp]
theorem wayUp_step {k : Vec 32} (hw : TrW t N) (h : has t N k = true) (hk : k ≠ t.root) : wayUp t N (hgt t N k) k = k :: wayUp t N (hgt t N (upOf k N)) (upOf k N) := by
  obtain ⟨h1, h2⟩ := up_has hw h hk
  rw [h2, wayUp, if_neg hk]
theorem Within_spec (hr : TrR w.heap g gm ov t N c) (hw : TrW t N) (a b : Vec 32) : cal P f_tree_Tree_Within [.pointer (some ⟨g, 0, none⟩), kv a, kv b] w fun r w' => r = .bool (under t N a b) ∧ Fr [] w w' := by
  refine s_tree_Tree_Within fun R hR => ?_
  unfold c_tree_Tree_Within
  refine bxQ (Sep.start w) fun g3 w1 hs1 => ?_
  refine bxQ hs1 fun g4 w2 hs2 => ?_
  simp only [L_api_ID (Sep.p1 hs2).blk]
  refine cal_i (Has_spec (hs2.tr hr) a) ?_
  rintro _ w3 ⟨rfl, hf3⟩
  have hs3 := hs2.old hf3
  by_cases ha : has t N a = true
  case neg =>
    have ha : has t N a = false := by simpa using ha
    simp only [ha, fx, Nat.reduceAdd, forall_const, Bool.not_false]
    exact hR _ _ ⟨by unfold under; rw [ha]; rfl, hs3.fr0⟩
  simp only [ha, fx, Nat.reduceAdd, forall_const, Bool.not_true, L_api_ID hs3.blk]
  refine jn1_dup ?_
  refine cal_i (Has_spec (hs3.tr hr) b) ?_
  rintro _ w4 ⟨rfl, hf4⟩
  have hs4 := hs3.old hf4
  by_cases hb : has t N b = true
  case neg =>
    have hb : has t N b = false := by simpa using hb
    simp only [hb, fx, Nat.reduceAdd, forall_const, Bool.not_false]
    exact hR _ _ ⟨by unfold under; rw [hb, Bool.false_and, Bool.and_false], hs4.fr0⟩
  simp only [hb, fx, Nat.reduceAdd, forall_const, Bool.not_true]
  refine ⟨fun z => ∃ k, has t N k = true ∧ under t N a b = under t N k b ∧ Sep w z [blk g4 (Rdr.cells (rVec 32) b).toArray T_api_ID, blk g3 (Rdr.cells (rVec 32) k).toArray T_api_ID], fun z => hgt t N (keyAt g3 z), ⟨a, ha, rfl, hs4⟩, ?_⟩
  rintro w5 ⟨k, hk, hu, hs5⟩ -
  refine drw_s hs5 fun w6 hs6 hw6 => ?_
  obtain ⟨T, fr, hc⟩ := (hs6.tr hr).cell
  simp only [L_api_ID hs6.blk, L_api_ID (Sep.p1 hs6).blk, ne_api_ID, L_tree_Tree hc, L_tree_Tree__made hc, L_tree_Tree__root hc, L_tree_Tree__height hc, L_tree_Tree__most hc, L_tree_Tree__blocks hc, L_tree_Tree__order hc, fx, Nat.reduceAdd, forall_const]
  have fin : (k = b ∨ k = t.root) → R (.bool (decide (k = b))) w6 := fun he => by
    refine hR _ _ ⟨?_, hs6.fr0⟩
    rw [hu]
    congr 1
    unfold under
    rw [hk, hb, Bool.true_and, Bool.true_and]
    by_cases hkb : k = b
    · subst hkb
      rw [decide_eq_true rfl]
      by_cases hkr : k = t.root
      · rw [decide_eq_true hkr]; rfl
      · rw [wayUp_step hw hk hkr]; simp
    · have hkr : k = t.root := he.resolve_left hkb
      rw [decide_eq_false hkb, hkr, wayUp_root]
      have : ¬ b = t.root := fun hbr => hkb (by rw [hkr, hbr])
      simp [this]
  rw [cnd_bool]
  refine ⟨fun h => ?_, fun h => ?_⟩
  · have h1 : ¬ k = b ∧ ¬ k = t.root := by simpa using h
    obtain ⟨h2, h3⟩ := up_has hw hk h1.2
    refine drH_S hs6 fun w7 hs7 hw7 => ?_
    refine rdS_ld (v := .map (some gm)) (fun u hu K hk => by
      obtain ⟨T, fr, hc⟩ := (hu.tr hr).cell
      exact (L_tree_Tree__blocks hc K).mpr hk) ?_
    refine ⟨kv k, fun u hu => (L_api_ID (Sep.p1 hu).blk _).mpr rfl, ?_⟩
    refine ⟨(getE k (N.map TN.ent)).getD (bq Blk.none (.slice none 0 0)), fun u hu => ((hu.tr hr).look1 k _).mpr rfl, ?_⟩
    rw [nb_get]
    have e : ∀ K, fldv 0 32 true (bq (nb k N).1 (nb k N).2) K = K (kv (upOf k N)) := fun K => by
      have hl : (bvs (nb k N).1.p.1).length = 32 := by rw [bvs_length]; exact (nb k N).1.p.2
      have ex : (Rdr.cells Q_api_Block ((nb k N).1.p, (nb k N).1.h, (nb k N).2)).toArray.extract 0 (0 + 32) = (bvs (nb k N).1.p.1).toArray := by
        apply Array.ext'
        show ((bvs (nb k N).1.p.1 ++ ([Value.int .i64 (nb k N).1.h] ++ [(nb k N).2])).toArray.extract 0 (0 + 32)).toList = _
        simp only [List.extract_toArray, List.drop_zero]
        simp [List.extract, hl]
      refine propext ⟨?_, fun hk => ⟨_, rfl, ?_, ?_⟩⟩
      · rintro ⟨cs, hcs, h⟩
        cases hcs
        have h2 := h.2
        rw [ex] at h2
        exact h2
      · show 0 + 32 ≤ (bvs (nb k N).1.p.1 ++ ([Value.int .i64 (nb k N).1.h] ++ [(nb k N).2])).toArray.size
        simp [hl]
      · rw [ex]
        exact hk
    change fldv _ _ _ _ _
    rw [e]
    refine efC_stN (St_api_ID hs7.p1 fun w8 hs8 => ?_)
    refine ⟨⟨upOf k N, h2, ?_, hs8.p1⟩, ?_⟩
    · rw [hu]
      unfold under
      rw [hk, h2, wayUp_step hw hk h1.2]
      have : ¬ b = k := fun hbk => h1.1 hbk.symm
      simp [this]
    · rw [keyAt_eq hs8.blk, keyAt_eq (Sep.p1 hs5).blk]
      omega
  · have h1 : k = b ∨ k = t.root := by
      rcases Decidable.em (k = b) with hh | hh
      · exact .inl hh
      · refine .inr (Decidable.byContradiction fun hr' => ?_)
        simp [hh, hr'] at h
    simp only [eq_api_ID, L_api_ID hs6.blk, L_api_ID (Sep.p1 hs6).blk]
    exact fin h1
end
end Go.Fx
set_option linter.unusedVariables false
set_option linter.unusedSimpArgs false
namespace Go.Fx
theorem splice_take {β : Type} {D vs pre qa post : List β} {k n : Nat} (hp : pre.length = k) (hv : vs.length = qa.length) (h : D.take n = pre ++ qa ++ post) (hn : n = k + qa.length + post.length) : (D.take k ++ vs ++ D.drop (k + vs.length)).take n = pre ++ vs ++ post := by
  obtain ⟨R, hR⟩ : ∃ R, D = pre ++ (qa ++ (post ++ R)) := ⟨D.drop n, by conv => lhs; rw [← List.take_append_drop n D, h]; simp⟩
  have h1 : D.take k = pre := by rw [hR]; exact List.take_left' hp
  have h2 : D.drop (k + vs.length) = post ++ R := by rw [hR, ← List.drop_drop, List.drop_left' hp, hv]; exact List.drop_left' rfl
  rw [h1, h2, ← List.append_assoc]
  exact List.take_left' (by simp; omega)
section
variable {w0 w w' : World} {As : List Asn} {α : Type} {q : Rdr α}
/-- A store of a whole row. -/
theorem rows_stN {g o c j : Nat} {l : List α} {a b : α} {K : World → Prop} (hs : Sep w0 w (Go.Fx.rows q (.slice (some ⟨g, o, none⟩) l.length c) l :: As)) (hj : l[j]? = some a)
    (h1 : ∀ u ∈ q.cells b, u.oneCell' = true) (h : ∀ w', Sep w0 w' (Go.Fx.rows q (.slice (some ⟨g, o, none⟩) l.length c) (l.set j b) :: As) → K w') : stN q.size (.pointer (some ⟨g, o + j * q.size, none⟩)) (.agg (q.cells b).toArray) w K := by
  obtain ⟨F, ho, hu⟩ := hs.upd
  have hlt := (List.getElem?_eq_some_iff.1 hj).1
  obtain ⟨pre', post', d1, d2, d3⟩ := flatMap_set (q := q) (b := b) hj
  have hb : j * q.size + q.size ≤ l.length * q.size := by rw [← Nat.succ_mul]; exact Nat.mul_le_mul_right _ hlt
  obtain ⟨hl, ⟨hv, _⟩ | ⟨g', o', cap, cur, E, hv, hn, hg, hfit, hcs, rfl⟩⟩ := ho
  · cases hv
  · cases hv
    have hcap : l.length * q.size ≤ c * q.size := Nat.mul_le_mul_right _ hn
    have hqa := q.len a
    have hqb := q.len b
    refine stN_i hg (by simp [hqb]) (by omega) (by simpa using h1) fun w' hg' hf => h w' ?_
    have hll : (l.set j b).length = l.length := by simp
    refine hu w' [g] _ ?_ hf (Grew.refl _ _)
    show Own w'.heap _ q.size (l.set j b).length _ [g]
    rw [hll]
    have hsz : (splice cur (o + j * q.size) (q.cells b)).size = cur.size := by
      simp only [splice, List.size_toArray, List.length_append, List.length_take, List.length_drop, Array.length_toList, hqb]
      omega
    refine ⟨by rw [parts_length q.len, hll], .inr ⟨g, o, c, _, E, rfl, hn, hg', by rw [hsz]; exact hfit, ?_, rfl⟩⟩
    rw [d2]
    rw [d1] at hcs
    have hlen : l.length * q.size = j * q.size + q.size + post'.length := by
      have h2 := congrArg List.length d1
      rw [parts_length q.len, List.length_append, List.length_append, hqa, d3] at h2
      exact h2
    have e : (splice cur (o + j * q.size) (q.cells b)).toList.drop o = (cur.toList.drop o).take (j * q.size) ++ q.cells b ++ (cur.toList.drop o).drop (j * q.size + (q.cells b).length) := by
      have e1 : List.drop o (cur.toList.take (o + j * q.size)) = (cur.toList.drop o).take (j * q.size) := by rw [List.drop_take]; congr 1; omega
      have e2 : (cur.toList.drop o).drop (j * q.size + (q.cells b).length) = cur.toList.drop (o + j * q.size + (q.cells b).length) := by rw [List.drop_drop]; congr 1; omega
      rw [e2]
      simp only [splice]
      rw [List.append_assoc, List.drop_append_of_le_length (by simp only [List.length_take, Array.length_toList]; omega), e1, List.append_assoc]
    rw [e]
    exact splice_take d3 (by rw [hqa, hqb]) hcs (by rw [hqa]; exact hlen)
/-- A row, read in a region that draws. -/
theorem rdS_rowV {S : World → Prop} {v : Value} {l : List α} {j : Nat} {a : α} {K : Value → Prop} (hp : 0 < q.size)
    (hw : S w) (hS : ∀ u, S u → Rows' q u.heap v l) (hj : l[j]? = some a) (k : IntKind) (h : K (.agg (q.cells a).toArray)) : ixs q.size v (.int k (j : Int)) fun t => rdS S (fun w => ldN q.size t w.heap) K := by
  obtain ⟨g, o, c, rfl⟩ := (hS w hw).form hp hj
  have hlt := (List.getElem?_eq_some_iff.1 hj).1
  rw [ixs_mk _ _ _ _ _ _ _ _ (by omega) (by omega), Int.toNat_natCast]
  refine ⟨.agg (q.cells a).toArray, fun z hz => ?_, h⟩
  have hat := At.of hp (hS z hz) hj
  exact (At.ldN hat (q.len a) _).mpr rfl
theorem Reverse_spec {v : Value} {l : List (Vec 32)} (hs : Sep w0 w (rows (rVec 32) v l :: As)) (hl : l.length ≤ 1000000) : cal P f_slices_Reverse_api_ID_api_ID [v] w fun r w' => r = .tuple #[] ∧ Sep w0 w' (rows (rVec 32) v l.reverse :: As) := by
  refine s_slices_Reverse_api_ID_api_ID fun R hR => ?_
  unfold c_slices_Reverse_api_ID_api_ID
  simp only [(Sep.rows hs).len, fx, Nat.reduceAdd, forall_const]
  rw [wi64 (by omega) (by omega)]
  refine ⟨fun x y z => ∃ (i : Nat) (m : List (Vec 32)), x = .int .i64 i ∧ y = .int .i64 ((l.length : Int) - 1 - i) ∧ 2 * i ≤ l.length + 1 ∧ m.length = l.length ∧ (∀ p, p < l.length → m[p]? = if p < i ∨ l.length ≤ p + i then l[l.length - 1 - p]? else l[p]?) ∧ Sep w0 z (rows (rVec 32) v m :: As),
    fun x _ _ => (l.length - RowKit.intOf x).toNat, ⟨0, l, rfl, by simp, by omega, rfl, fun p hp => by rw [if_neg (by omega)], hs⟩, ?_⟩
  rintro _ _ w1 ⟨i, m, rfl, rfl, hi, hml, hm, hs1⟩ -
  simp only [fx, Nat.reduceAdd, forall_const]
  rw [cnd_bool]
  refine ⟨fun h => ?_, fun h => ?_⟩
  · have hij : i + 1 + i < l.length := by simp at h; omega
    obtain ⟨j, hj⟩ : ∃ j : Nat, (l.length : Int) - 1 - i = (j : Int) := ⟨l.length - 1 - i, by omega⟩
    have hjl : j = l.length - 1 - i := by omega
    rw [hj]
    obtain ⟨a, c, rfl, hac⟩ := Sep.formR hs1
    have hmi := List.getElem?_eq_getElem (l := m) (i := i) (by omega)
    have hmj := List.getElem?_eq_getElem (l := m) (i := j) (by omega)
    generalize m[i] = x at hmi
    generalize m[j] = y at hmj
    refine drH_S hs1 fun w2 hs2 _ => ?_
    refine rdS_rowV (q := rVec 32) (by decide) hs2 (fun u hu => Sep.rows hu) hmj .i64 ?_
    refine rdS_rowV (q := rVec 32) (by decide) hs2 (fun u hu => Sep.rows hu) hmi .i64 ?_
    obtain ⟨g, o, c', hv⟩ := (Sep.rows hs2).form (by decide) hmi
    simp only [Value.slice.injEq] at hv
    obtain ⟨rfl, _, rfl⟩ := hv
    rw [ixs_mk _ _ _ _ _ _ _ _ (by omega) (by omega), Int.toNat_natCast]
    refine efC_stN (rows_stN hs2 hmi oneVec fun w3 hs3 => ?_)
    rw [ixs_mk _ _ _ _ _ _ _ _ (by omega) (by omega), Int.toNat_natCast]
    have hmj' : (m.set i y)[j]? = some y := by rw [List.getElem?_set_ne (by omega)]; exact hmj
    have e3 : m.length = (m.set i y).length := by simp
    rw [e3] at hs3
    refine efC_stN (rows_stN hs3 hmj' oneVec fun w4 hs4 => ?_)
    rw [← e3] at hs4
    rw [wi64 (by omega) (by omega), wi64 (by omega) (by omega)]
    refine ⟨⟨i + 1, (m.set i y).set j x, by simp, by congr 1; omega, by omega, by simp [hml], fun p hp => ?_, hs4⟩, by simp [RowKit.intOf]; omega⟩
    have hmp := hm p hp
    have hix := hm i (by omega)
    have hjy := hm j (by omega)
    rw [if_neg (by omega)] at hix hjy
    by_cases hpj : p = j
    · subst hpj
      rw [List.getElem?_set_self (by simp; omega), if_pos (by omega), show l.length - 1 - p = i by omega, ← hix, hmi]
    · rw [List.getElem?_set_ne (by omega)]
      by_cases hpi : p = i
      · subst hpi
        rw [List.getElem?_set_self (by omega), if_pos (by omega), show l.length - 1 - p = j by omega, ← hjy, hmj]
      · rw [List.getElem?_set_ne (by omega), hmp]
        by_cases hc : p < i ∨ l.length ≤ p + i
        · rw [if_pos hc, if_pos (by omega)]
        · rw [if_neg hc, if_neg (by omega)]
  · have hge : l.length ≤ i + 1 + i := by simp at h; omega
    have e : m = l.reverse := by
      apply List.ext_getElem?
      intro p
      by_cases hp : p < l.length
      · rw [hm p hp, List.getElem?_reverse hp]
        by_cases hc : p < i ∨ l.length ≤ p + i
        · rw [if_pos hc]
        · rw [if_neg hc, show l.length - 1 - p = p by omega]
      · rw [List.getElem?_eq_none (by omega), List.getElem?_eq_none (by simp; omega)]
    rw [e] at hs1
    exact hR _ _ ⟨rfl, hs1⟩
end
end Go.Fx
set_option linter.unusedVariables false
set_option linter.unusedSimpArgs false
namespace Go.Fx
def pathOf (t : Tr) (N : List TN) (k : Vec 32) : List (Vec 32) := if has t N k then (wayUp t N (hgt t N k) k).reverse else []
theorem wayUp_len (t : Tr) (N : List TN) : ∀ (n : Nat) (k : Vec 32), (wayUp t N n k).length ≤ n
  | 0, _ => by simp [wayUp]
  | n + 1, k => by
    unfold wayUp
    split
    · simp
    · have := wayUp_len t N n (upOf k N)
      simp only [List.length_cons]
      omega
theorem fldv_par (b : Blk) (v : Value) (K : Value → Prop) : fldv 0 32 true (bq b v) K = K (kv b.p) := by
  have hl : (bvs b.p.1).length = 32 := by rw [bvs_length]; exact b.p.2
  have ex : (Rdr.cells Q_api_Block (b.p, b.h, v)).toArray.extract 0 (0 + 32) = (bvs b.p.1).toArray := by
    apply Array.ext'
    show ((bvs b.p.1 ++ ([Value.int .i64 b.h] ++ [v])).toArray.extract 0 (0 + 32)).toList = _
    simp only [List.extract_toArray, List.drop_zero]
    simp [List.extract, hl]
  refine propext ⟨?_, fun hk => ⟨_, rfl, ?_, ?_⟩⟩
  · rintro ⟨cs, hcs, h⟩
    cases hcs
    have h2 := h.2
    rw [ex] at h2
    exact h2
  · show 0 + 32 ≤ (bvs b.p.1 ++ ([Value.int .i64 b.h] ++ [v])).toArray.size
    simp [hl]
  · rw [ex]
    exact hk
section
variable {w0 w w' : World} {As : List Asn} {g gm c : Nat} {ov : Value} {t : Tr} {N : List TN}
theorem Path_spec (hr : TrR w.heap g gm ov t N c) (hw : TrW t N) (a : Vec 32) (hh : hgt t N a ≤ 1000000) : cal P f_tree_Tree_Path [.pointer (some ⟨g, 0, none⟩), kv a] w fun r w' => Sep w w' [rows (rVec 32) r (pathOf t N a)] := by
  refine s_tree_Tree_Path fun R hR => ?_
  unfold c_tree_Tree_Path
  refine bxQ (Sep.start w) fun g3 w1 hs1 => ?_
  simp only [L_api_ID hs1.blk]
  refine cal_i (Has_spec (hs1.tr hr) a) ?_
  rintro _ w2 ⟨rfl, hf2⟩
  have hs2 := hs1.old hf2
  simp only [fx, Nat.reduceAdd, forall_const]
  rw [cnd_bool]
  refine ⟨fun h => ?_, fun h => ?_⟩
  · have ha : has t N a = false := by simpa using h
    refine hR _ _ ?_
    unfold pathOf
    rw [ha]
    exact ((Sep.start w).old hs2.fr0).nilR
  have ha : has t N a = true := by simpa using h
  have hwl := wayUp_len t N (hgt t N a) a
  refine ⟨fun x z => ∃ (k : Vec 32) (D : List (Vec 32)), has t N k = true ∧ D ++ wayUp t N (hgt t N k) k = wayUp t N (hgt t N a) a ∧ Sep w z [rows (rVec 32) x D, blk g3 (Rdr.cells (rVec 32) k).toArray T_api_ID], fun _ z => hgt t N (keyAt g3 z), ⟨a, [], ha, rfl, hs2.nilR⟩, ?_⟩
  rintro x w5 ⟨k, D, hk, hD, hs5⟩ -
  have hDl : D.length ≤ 1000000 := by
    have := congrArg List.length hD
    rw [List.length_append] at this
    omega
  refine drw_s hs5 fun w6 hs6 hw6 => ?_
  obtain ⟨T, fr, hc⟩ := (hs6.tr hr).cell
  simp only [L_api_ID (Sep.p1 hs6).blk, ne_api_ID, L_tree_Tree hc, L_tree_Tree__made hc, L_tree_Tree__root hc, L_tree_Tree__height hc, L_tree_Tree__most hc, L_tree_Tree__blocks hc, L_tree_Tree__order hc, fx, Nat.reduceAdd, forall_const]
  rw [cnd_bool]
  refine ⟨fun h => ?_, fun h => ?_⟩
  · have h1 : ¬ k = t.root := by simpa using h
    obtain ⟨h2, h3⟩ := up_has hw hk h1
    refine rows_lit hs6 S_sl_api_ID (l := [k]) (V := fun a => .agg (Rdr.cells (rVec 32) a).toArray) (fun a => rfl) rfl rfl (by decide) (by decide) fun g7 w7 hs7 => ?_
    refine rows_app S_sl_api_ID U_sl_api_ID (by simp) hs7.p1 (Sep.rows hs7) ?_ (by simp; omega) (by simp; omega) fun v8 w8 hs8 => ?_
    · simp only [List.flatMap_cons, List.flatMap_nil, List.append_nil]
      exact oneVec
    have hs9 : Sep w w8 [rows (rVec 32) v8 (D ++ [k]), blk g3 (Rdr.cells (rVec 32) k).toArray T_api_ID] := (hs8.pick [0, 2] 3).dropR (As := [_, _])
    refine drH_S hs9 fun w10 hs10 _ => ?_
    refine rdS_ld (v := .map (some gm)) (fun u hu K hk => by
      obtain ⟨T, fr, hc⟩ := (hu.tr hr).cell
      exact (L_tree_Tree__blocks hc K).mpr hk) ?_
    refine ⟨kv k, fun u hu => (L_api_ID (Sep.p1 hu).blk _).mpr rfl, ?_⟩
    refine ⟨(getE k (N.map TN.ent)).getD (bq Blk.none (.slice none 0 0)), fun u hu => ((hu.tr hr).look1 k _).mpr rfl, ?_⟩
    rw [nb_get]
    change fldv _ _ _ _ _
    rw [fldv_par]
    refine efC_stN (St_api_ID hs10.p1 fun w11 hs11 => ?_)
    refine ⟨⟨upOf k N, D ++ [k], h2, ?_, hs11.p1⟩, ?_⟩
    · rw [← hD, wayUp_step hw hk h1]; simp
    · rw [keyAt_eq hs11.blk, keyAt_eq (Sep.p1 hs5).blk]
      show hgt t N (upOf k N) < hgt t N k
      omega
  · have h1 : k = t.root := by simpa using h
    rw [h1, wayUp_root, List.append_nil] at hD
    refine cal_i (Reverse_spec hs6 hDl) ?_
    rintro _ w7 ⟨rfl, hs7⟩
    refine hR _ _ ?_
    unfold pathOf
    rw [if_pos ha, ← hD]
    exact Sep.dropR (As := [rows (rVec 32) x D.reverse]) hs7
end
end Go.Fx
set_option linter.unusedVariables false
set_option linter.unusedSimpArgs false
namespace Go.Fx
theorem filter_opt {α : Type} (so : α → Bool) (k : α) : List.filter so (some k).toList = if so k = true then [k] else [] := by
  cases h : so k <;> simp [h]
section
variable {w0 w w' : World} {As : List Asn} {g gm c : Nat} {ov : Value} {t : Tr} {N : List TN}
theorem calV_mk {f : FuncId} {cap args : List Value} {K : Value → World → Prop} (hc : callable P f = true) (h : cal P f (args ++ cap) w K) : calV P (.func (.func f) #[] cap.toArray) args w K :=
  ⟨f, #[], cap.toArray, rfl, hc, by simpa [cal] using h⟩
theorem those_spec {f : FuncId} {cap : List Value} {so : Vec 32 → Bool} (hr : TrR w.heap g gm ov t N c) (hn : N.length ≤ 1000000) (hc : callable P f = true)
    (hso : ∀ (z : World) (k : Vec 32), Fr [] w z → cal P f ([kv k] ++ cap) z fun r w' => r = .bool (so k) ∧ Fr [] z w') :
    cal P f_tree_Tree_those [.pointer (some ⟨g, 0, none⟩), .func (.func f) #[] cap.toArray] w fun r w' => Sep w w' [rows (rVec 32) r ((N.map (·.1)).filter so)] := by
  refine s_tree_Tree_those fun R hR => ?_
  unfold c_tree_Tree_those
  refine cal_i (tnone_spec hr) ?_
  rintro _ _ ⟨rfl, rfl⟩
  obtain ⟨T, fr, hcl⟩ := hr.cell
  have hl : ∀ K, lenS ov K = K (.int .i64 N.length) := fun K => by
    have := hr.ord.len K
    rwa [List.length_map] at this
  simp only [fx, Nat.reduceAdd, forall_const, L_tree_Tree hcl, L_tree_Tree__made hcl, L_tree_Tree__root hcl, L_tree_Tree__height hcl, L_tree_Tree__most hcl, L_tree_Tree__blocks hcl, L_tree_Tree__order hcl, hl]
  refine ⟨fun x y z => ∃ i : Nat, y = .int .i64 i ∧ i ≤ N.length ∧ Sep w z [rows (rVec 32) x (((N.map (·.1)).take i).filter so)], fun _ y _ => (N.length - RowKit.intOf y).toNat, ⟨0, rfl, by omega, (Sep.start w).nilR⟩, ?_⟩
  rintro x _ w1 ⟨i, rfl, hi, hs1⟩ -
  simp only [fx, Nat.reduceAdd, forall_const]
  rw [cnd_bool]
  refine ⟨fun h => ?_, fun h => ?_⟩
  · have hlt : i < N.length := by simp at h; omega
    obtain ⟨Ks, hKs⟩ : ∃ Ks : List (Vec 32), Ks = N.map (·.1) := ⟨_, rfl⟩
    have hKl : Ks.length = N.length := by rw [hKs, List.length_map]
    rw [← hKs] at hs1 ⊢
    have hord := hr.ord
    rw [← hKs] at hord
    obtain ⟨k, hx⟩ : ∃ k, Ks[i]? = some k := ⟨_, List.getElem?_eq_getElem (by omega)⟩
    clear hKs
    have ht : (Ks.take (i + 1)).filter so = (Ks.take i).filter so ++ (if so k then [k] else []) := by
      rw [List.take_add_one, hx, List.filter_append, filter_opt]
    have hfl : ((Ks.take i).filter so).length ≤ i := by
      have h1 := List.length_filter_le so (Ks.take i)
      have h2 : (Ks.take i).length ≤ i := List.length_take_le _ _
      omega
    refine ⟨fun v z => Sep w z [rows (rVec 32) v ((Ks.take (i + 1)).filter so)], ?_, ?_⟩
    · change ixs 32 _ _ _
      refine Rows'.ldN (q := rVec 32) (by decide) (hord.fr hs1.fr0) hx .i64 ?_
      refine alloc_s hs1 (A_api_ID w1) fun g7 w2 hs2 => ?_
      refine St_api_ID (b := k) hs2 fun w3 hs3 => ?_
      simp only [L_api_ID hs3.blk]
      refine calV_mk hc (cal_i (hso w3 k hs3.fr0) ?_)
      rintro _ w4 ⟨rfl, hf4⟩
      have hs4 := hs3.old hf4
      rw [cnd_bool]
      refine ⟨fun hk => ?_, fun hk => ?_⟩
      · simp only [L_api_ID hs4.blk]
        refine rows_lit hs4 S_sl_api_ID (l := [k]) (V := fun a => .agg (Rdr.cells (rVec 32) a).toArray) (fun a => rfl) rfl rfl (by decide) (by decide) fun g8 w5 hs5 => ?_
        refine rows_app S_sl_api_ID U_sl_api_ID (by simp) hs5.p2 (Sep.rows hs5) ?_ (by simp; omega) (by simp; omega) fun v8 w8 hs8 => ?_
        · simp only [List.flatMap_cons, List.flatMap_nil, List.append_nil]
          exact oneVec
        rw [ht, hk, if_pos rfl]
        exact Sep.dropR (As := [rows (rVec 32) v8 _]) hs8
      · rw [ht, hk]
        simpa using hs4.tail
    · rintro v w2 hs2 _
      rw [wi64 (by omega) (by omega)]
      exact ⟨⟨i + 1, by simp, by omega, hs2⟩, by simp [RowKit.intOf]; omega⟩
  · have hge : i = N.length := by simp at h; omega
    subst hge
    rw [List.take_of_length_le (by simp)] at hs1
    exact hR _ _ hs1
end
end Go.Fx
set_option linter.unusedVariables false
set_option linter.unusedSimpArgs false
namespace Go.Fx
/-- A tree that the call owns. -/
def trL (g gm : Nat) (ov : Value) (t : Tr) (N : List TN) (c : Nat) : List Asn :=
  blk g (Rdr.cells Q_tree_Tree (tq t gm ov)).toArray T_tree_Tree :: mpN gm N c :: rows (rVec 32) ov (N.map (·.1)) :: N.map fun x => ownB x.2.2.1 x.2.1.d
section
variable {w0 w w' : World} {As : List Asn} {g gm c : Nat} {ov : Value} {t : Tr} {N : List TN}
theorem TrW.nil (t : Tr) : TrW t [] := ⟨fun k b h => by simp [blkOf, nodeOf] at h, fun k b h => by simp [blkOf, nodeOf] at h, rfl, fun x hx => by cases hx⟩
theorem tNew_spec (r : Vec 32) (h m : Int) : cal P f_tree_New [kv r, .int .i64 h, .int .i64 m] w fun v w' => (¬ (0 ≤ h ∧ 1 ≤ m ∧ m ≤ 256) ∧ v = .tuple #[.pointer none, .int .i64 1] ∧ Fr [] w w') ∨
    ((0 ≤ h ∧ 1 ≤ m ∧ m ≤ 256) ∧ ∃ g gm, v = .tuple #[.pointer (some ⟨g, 0, none⟩), .int .i64 0] ∧ Sep w w' (trL g gm (.slice none 0 0) ⟨r, h, m⟩ [] 0)) := by
  refine s_tree_New fun R hR => ?_
  unfold c_tree_New
  refine bxQ (Sep.start w) fun g1 w1 hs1 => ?_
  simp only [fx, Nat.reduceAdd, forall_const]
  rw [cnd_bool]
  refine ⟨fun hc => ?_, fun hc => ?_⟩
  · simp only [Bool.or_eq_true, decide_eq_true_eq] at hc
    exact hR _ _ (.inl ⟨by omega, rfl, hs1.fr0⟩)
  · simp only [Bool.or_eq_false_iff, decide_eq_false_iff_not] at hc
    simp only [L_api_ID hs1.blk]
    refine makeMap_s (n := 32) hs1 fun gm w2 hs2 => ?_
    rw [B_tree_Tree_0_1_2_3_4 rfl]
    refine bxQ hs2 fun g3 w3 hs3 => ?_
    refine hR _ _ (.inr ⟨by omega, g3, gm, rfl, ?_⟩)
    have h4 := mpN_close (EOk.nil 0) (Sep.p2 (hs3.nilR (q := rVec 32)))
    exact Sep.dropR (As := trL g3 gm (.slice none 0 0) ⟨r, h, m⟩ [] 0) (Sep.pick h4 [2, 0, 1] 4)
end
end Go.Fx
set_option linter.unusedVariables false
set_option linter.unusedSimpArgs false
namespace Go.Fx
section
variable {w0 w w' : World} {As : List Asn} {g gm c : Nat} {ov : Value} {t : Tr} {N : List TN}
end
end Go.Fx
set_option linter.unusedVariables false
set_option linter.unusedSimpArgs false
namespace Go.Fx
/-- A tree that the call owns, but for the blocks' data. -/
def trH (g gm : Nat) (ov : Value) (t : Tr) (N : List TN) (c : Nat) : List Asn :=
  [blk g (Rdr.cells Q_tree_Tree (tq t gm ov)).toArray T_tree_Tree, mpN gm N c, rows (rVec 32) ov (N.map (·.1))]
/-- The blocks' data stand among what the call owns. -/
def Dat (N : List TN) (As : List Asn) : Prop := ∀ x ∈ N, ownB x.2.2.1 x.2.1.d ∈ As
theorem trL_nil (g gm : Nat) (ov : Value) (t : Tr) (c : Nat) : trL g gm ov t [] c = trH g gm ov t [] c := rfl
theorem Dat.nil (As : List Asn) : Dat [] As := fun x hx => by cases hx
theorem Dat.sub {N : List TN} {As Bs : List Asn} (h : Dat N As) (hs : ∀ A ∈ As, A ∈ Bs) : Dat N Bs := fun x hx => hs _ (h x hx)
theorem Dat.add {N : List TN} {As : List Asn} {k : Vec 32} {b : Blk} {v : Value} {c : Nat} (h : Dat N As) : Dat (N ++ [(k, b, v, c)]) (ownB v b.d :: As) := fun x hx => by
  rcases List.mem_append.1 hx with hx | hx
  · exact List.mem_cons_of_mem _ (h x hx)
  · obtain rfl : x = (k, b, v, c) := by simpa using hx
    simp
section
variable {w0 w w' : World} {As : List Asn} {g gm c : Nat} {ov : Value} {t : Tr} {N : List TN}
theorem trH_rd (h : Sep w0 w (trH g gm ov t N c ++ As)) (hd : Dat N As) : TrR w.heap g gm ov t N c := by
  refine ⟨⟨_, _, Sep.blk h⟩, (by obtain ⟨E, hE, h2⟩ := mpN_open (Sep.tail h); exact ⟨E, hE, Sep.map h2⟩), Sep.rows (Sep.tail (Sep.tail h)), fun x hx => ?_⟩
  obtain ⟨F, hF⟩ := h.onL (A := ownB x.2.2.1 x.2.1.d) (by
    simp only [trH, List.cons_append, List.mem_cons, List.nil_append]
    exact .inr (.inr (.inr (hd x hx))))
  exact OwnB.rd hF
/-- Which error an Add has. -/
def addE (t : Tr) (N : List TN) (b : Blk) : Int :=
  if b.chk ≠ 0 then b.chk else if has t N b.id = true then 110 else if has t N b.p = false ∨ b.h < 1 ∨ b.h - 1 ≠ levH t N b.p then 31 else if t.most ≤ N.length then 6 else 0
theorem Add_spec {b : Blk} {v : Value} (hs : Sep w0 w (trH g gm ov t N c ++ As)) (hd : Dat N As) (hw : TrW t N) (hC : Cub w) (hb : RdB w.heap v b.d) (hh : b.h ≤ maxI) (hn : N.length ≤ 1000000) :
    cal P f_tree_Tree_Add [.pointer (some ⟨g, 0, none⟩), bq b v] w fun r w' =>
      (addE t N b ≠ 0 ∧ r = .tuple #[kv (vz 32), .int .i64 (addE t N b)] ∧ Sep w0 w' (trH g gm ov t N c ++ As)) ∨
      (addE t N b = 0 ∧ r = .tuple #[kv b.id, .int .i64 0] ∧ ∃ ov' vd, Sep w0 w' (trH g gm ov' t (N ++ [(b.id, b, vd, c)]) (c + 1) ++ (ownB vd b.d :: As))) := by
  have hr := trH_rd hs hd
  refine s_tree_Tree_Add fun R hR => ?_
  unfold c_tree_Tree_Add
  refine bxQ (Sep.start w) fun g3 w1 hs1 => ?_
  refine alloc_s hs1 (A_api_ID w1) fun g4 w2 hs2 => ?_
  refine cal_i (tnone_spec (hs2.tr hr)) ?_
  rintro _ _ ⟨rfl, rfl⟩
  simp only [fx, Nat.reduceAdd, forall_const, L_api_Block (Sep.p1 hs2).blk, L_api_Block__Parent (Sep.p1 hs2).blk, L_api_Block__Height (Sep.p1 hs2).blk, L_api_Block__Data (Sep.p1 hs2).blk]
  refine cal_i (bkID_spec (hC.fr hs2.fr0) (hb.fr hs2.fr0 (off_nil _)) hh) ?_
  rintro _ w3 ⟨rfl, hf3⟩
  have hs3 := hs2.old hf3
  simp only [fx, Nat.reduceAdd, forall_const]
  refine alloc_s hs3 (A_api_ID w3) fun g6 w4 hs4 => ?_
  refine St_api_ID hs4 fun w5 hs5 => ?_
  have bad : ∀ (w6 : World) (e : Int), Sep w w6 [blk g6 (Rdr.cells (rVec 32) b.name).toArray T_api_ID, blk g4 (Rdr.cells (rVec 32) (vz 32)).toArray T_api_ID, blk g3 (Rdr.cells Q_api_Block (b.p, b.h, v)).toArray T_api_Block] → addE t N b = e → e ≠ 0 →
      rdP P (Instr.build T_api_ID #[]) w6 fun t20 => stN 32 (.pointer (some ⟨g4, 0, none⟩)) t20 w6 fun w => ldN 32 (.pointer (some ⟨g4, 0, none⟩)) w.heap fun r1 => R (.tuple #[r1, .int .i64 e]) w := fun w6 e hs6 he h0 => by
    rw [B_ID0]
    refine St_api_ID hs6.p1 fun w7 hs7 => ?_
    simp only [L_api_ID hs7.blk]
    exact hR _ _ (.inl ⟨by rw [he]; exact h0, by rw [he], hs.old hs7.fr0⟩)
  rw [cnd_bool]
  refine ⟨fun h => ?_, fun h => ?_⟩
  · have h : b.chk ≠ 0 := by simpa using h
    exact bad w5 b.chk hs5 (by unfold addE; rw [if_pos h]) h
  have h1 : b.chk = 0 := by simpa using h
  have hnm : b.name = b.id := by unfold Blk.name; rw [if_pos h1]
  rw [hnm] at hs5 bad
  simp only [L_api_ID hs5.blk]
  refine cal_i (Has_spec (hs5.tr hr) b.id) ?_
  rintro _ w6 ⟨rfl, hf6⟩
  have hs6 := hs5.old hf6
  rw [cnd_bool]
  refine ⟨fun h => ?_, fun h => ?_⟩
  · exact bad w6 110 hs6 (by unfold addE; rw [if_neg (by simpa using h1), if_pos h]) (by decide)
  have h2 : ¬ has t N b.id = true := by rw [h]; simp
  simp only [fx, Nat.reduceAdd, forall_const, L_api_Block (Sep.p2 hs6).blk, L_api_Block__Parent (Sep.p2 hs6).blk, L_api_Block__Height (Sep.p2 hs6).blk, L_api_Block__Data (Sep.p2 hs6).blk]
  refine cal_i (level_spec (hs6.tr hr) b.p) ?_
  rintro _ w7 ⟨rfl, hf7⟩
  have hs7 := hs6.old hf7
  simp only [fx, Nat.reduceAdd, forall_const, L_api_Block (Sep.p2 hs7).blk, L_api_Block__Parent (Sep.p2 hs7).blk, L_api_Block__Height (Sep.p2 hs7).blk, L_api_Block__Data (Sep.p2 hs7).blk]
  rw [cnd_bool]
  refine ⟨fun h => ?_, fun h => ?_⟩
  · refine bad w7 31 hs7 ?_ (by decide)
    unfold addE
    rw [if_neg (by simpa using h1), if_neg h2, if_pos]
    simp only [Bool.or_eq_true, Bool.not_eq_true', decide_eq_true_eq, bne_iff_ne, ne_eq] at h
    rcases h with (h | h) | h
    · exact .inl h
    · exact .inr (.inl h)
    · by_cases h4 : b.h < 1
      · exact .inr (.inl h4)
      · rw [wi64 (by omega) (by unfold maxI at hh; omega)] at h
        exact .inr (.inr h)
  simp only [Bool.or_eq_false_iff, Bool.not_eq_false', decide_eq_false_iff_not, bne_eq_false_iff_eq] at h
  obtain ⟨⟨h3, h4⟩, h5⟩ := h
  rw [wi64 (by omega) (by unfold maxI at hh; omega)] at h5
  have h31 : ¬ (has t N b.p = false ∨ b.h < 1 ∨ b.h - 1 ≠ levH t N b.p) := by
    rintro (h | h | h)
    · rw [h3] at h; cases h
    · exact h4 h
    · exact h h5
  refine drw_s hs7 fun w8 hs8 _ => ?_
  obtain ⟨T, fr, hc⟩ := (hs8.tr hr).cell
  simp only [fx, Nat.reduceAdd, forall_const, L_tree_Tree hc, L_tree_Tree__made hc, L_tree_Tree__root hc, L_tree_Tree__height hc, L_tree_Tree__most hc, L_tree_Tree__blocks hc, L_tree_Tree__order hc]
  rw [(hs8.tr hr).mlen (by omega)]
  simp only [fx, Nat.reduceAdd, forall_const]
  rw [cnd_bool]
  refine ⟨fun h => ?_, fun h => ?_⟩
  · have h : t.most ≤ (N.length : Int) := by simpa using h
    exact bad w8 6 hs8 (by unfold addE; rw [if_neg (by simpa using h1), if_neg h2, if_neg h31, if_pos h]) (by decide)
  have h6 : ¬ t.most ≤ (N.length : Int) := by simpa using h
  have hE : addE t N b = 0 := by unfold addE; rw [if_neg (by simpa using h1), if_neg h2, if_neg h31, if_neg h6]
  have hg0 : getE b.id (N.map TN.ent) = none := by
    have h7 : has t N b.id = false := by simpa using h2
    unfold has at h7
    simp only [Bool.or_eq_false_iff] at h7
    have h8 := nb_is b.id N
    rw [h7.2] at h8
    cases hgE : getE b.id (N.map TN.ent) with
    | none => rfl
    | some x => rw [hgE] at h8; cases h8
  have hsA := hs.join hs8
  refine drH_S hsA fun w9 hs9 hh9 => ?_
  refine rdS_ld (v := .map (some gm)) (fun u hu K hk => (L_tree_Tree__blocks (Sep.p3 hu).blk K).mpr hk) ?_
  refine ⟨kv b.id, fun u hu => (L_api_ID (Sep.blk hu) _).mpr rfl, ?_⟩
  refine ⟨bq b v, fun u hu => (L_api_Block (Sep.blk (Sep.p2 hu)) _).mpr rfl, ?_⟩
  have hl : b.d.length ≤ 200 := by
    unfold Blk.chk at h1
    split at h1
    · cases h1
    · omega
  refine efS_i (cal_i (bkClone_spec (b := b) (v := v) (by rw [hh9]; exact hb.fr hs8.fr0 (off_nil _)) (by omega)) ?_)
  rintro _ w10 ⟨vd, rfl, hs10⟩
  have hs10' := hs9.join hs10
  refine ⟨Sep.tail hs10', ?_⟩
  obtain ⟨E, hEO, hs10e⟩ := mpN_open (Sep.p5 hs10')
  refine efC_efU (putNew_s (c := c) U_map_api_ID_api_Block KT hs10e (by rw [hEO.get]; exact hg0) fun w11 hs11 => ?_)
  replace hs11 := mpN_close (hEO.add (c' := c) hg0) hs11
  refine drH_S hs11 fun w12 hs12 _ => ?_
  refine rdS_ld (v := ov) (fun u hu K hk => (L_tree_Tree__order (Sep.p5 hu).blk K).mpr hk) ?_
  refine ⟨kv b.id, fun u hu => (L_api_ID (Sep.p2 hu).blk _).mpr rfl, ?_⟩
  refine efS_i (rows_lit hs12 S_sl_api_ID (l := [b.id]) (V := fun a => .agg (Rdr.cells (rVec 32) a).toArray) (fun a => rfl) rfl rfl (by decide) (by decide) fun g7 w13 hs13 => ⟨hs13.tail, ?_⟩)
  refine efC_efP (rows_app S_sl_api_ID U_sl_api_ID (by simp) (Sep.pick hs13 [7, 0, 1, 2, 3, 4, 5, 6] 8) (Sep.rows hs13) ?_ (by simp; omega) (by simp; omega) fun v14 w14 hs14 => ?_)
  · simp only [List.flatMap_cons, List.flatMap_nil, List.append_nil]
    exact oneVec
  have hs15 := Sep.pick hs14 [7, 0, 1, 2, 3, 4, 5, 6] 8
  refine efC_st1 (St_tree_Tree__order hs15 (Sep.oneR hs14) fun w16 hs16 => ?_)
  simp only [L_api_ID (Sep.blk (Sep.p5 hs16))]
  refine St_api_ID (Sep.pick hs16 [6, 0, 1, 2, 3, 4, 5, 7] 8) fun w17 hs17 => ?_
  simp only [L_api_ID (Sep.blk hs17)]
  refine hR _ _ (.inr ⟨hE, rfl, v14, vd, ?_⟩)
  have hs18 := Sep.pick hs17 [1, 4, 2, 5] 8
  have e2 : (N ++ [(b.id, b, vd, c)]).map (·.1) = N.map (·.1) ++ [b.id] := by simp
  unfold trH
  rw [e2]
  exact hs18
end
/-- With one more the tree is well-formed. -/
theorem nodeOf_snoc {k : Vec 32} {N : List TN} {x : TN} : nodeOf k (N ++ [x]) = (nodeOf k N).or (if k = x.1 then some x else none) := by
  unfold nodeOf
  rw [List.find?_append]
  congr 1
  by_cases h : k = x.1 <;> simp [h]
theorem blkOf_snoc {k : Vec 32} {N : List TN} {x : TN} : blkOf k (N ++ [x]) = (blkOf k N).or (if k = x.1 then some x.2.1 else none) := by
  unfold blkOf
  rw [nodeOf_snoc]
  cases nodeOf k N with
  | some y => rfl
  | none => by_cases h : k = x.1 <;> simp [h]
theorem has_old {t : Tr} {N : List TN} {x : TN} {k : Vec 32} (h : has t N k = true) : has t (N ++ [x]) k = true ∧ levH t (N ++ [x]) k = levH t N k := by
  by_cases hr : k = t.root
  · subst hr
    unfold has levH
    simp
  · have hb := has_blk h hr
    have h2 : blkOf k (N ++ [x]) = some (nb k N).1 := by rw [blkOf_snoc, hb]; rfl
    unfold has levH
    rw [h2, hb, if_neg hr]
    simp
theorem TrW.add {t : Tr} {N : List TN} {b : Blk} {vd : Value} {c : Nat} (hw : TrW t N) (h : addE t N b = 0) : TrW t (N ++ [(b.id, b, vd, c)]) := by
  unfold addE at h
  split at h
  · rename_i h1; exact absurd h h1
  rename_i h1
  split at h
  · cases h
  rename_i h2
  split at h
  · cases h
  rename_i h3
  have h1 : b.chk = 0 := by simpa using h1
  have h2 : has t N b.id = false := by simpa using h2
  have h4 : has t N b.p = true ∧ ¬ b.h < 1 ∧ b.h - 1 = levH t N b.p := by
    refine ⟨?_, fun h => h3 (.inr (.inl h)), ?_⟩
    · cases hp : has t N b.p with
      | true => rfl
      | false => exact absurd (.inl hp) h3
    · by_cases hq : b.h - 1 = levH t N b.p
      · exact hq
      · exact absurd (.inr (.inr hq)) h3
  have hlev : ∀ k, has t N k = true → t.ht ≤ levH t N k := fun k hk => by
    by_cases hr : k = t.root
    · unfold levH; rw [if_pos hr]; omega
    · have hb := has_blk hk hr
      have := hw.above _ _ hb
      unfold levH
      rw [if_neg hr, hb]
      simp only
      omega
  have hnr : ¬ b.id = t.root := fun he => by
    unfold has at h2
    rw [decide_eq_true he] at h2
    cases h2
  have key : ∀ k b', blkOf k (N ++ [(b.id, b, vd, c)]) = some b' → blkOf k N = some b' ∨ (k = b.id ∧ b' = b) := fun k b' hk => by
    rw [blkOf_snoc] at hk
    cases hb : blkOf k N with
    | some y => rw [hb] at hk; exact .inl hk
    | none =>
      rw [hb] at hk
      by_cases he : k = b.id
      · simp [he] at hk; exact .inr ⟨he, hk.symm⟩
      · simp [he] at hk
  refine ⟨fun k b' hk => ?_, fun k b' hk => ?_, ?_, fun x hx => ?_⟩
  · rcases key k b' hk with hk | ⟨rfl, rfl⟩
    · obtain ⟨h5, h6⟩ := hw.up k b' hk
      obtain ⟨h7, h8⟩ := has_old (x := (b.id, b, vd, c)) h5
      exact ⟨h7, by rw [h8]; exact h6⟩
    · obtain ⟨h7, h8⟩ := has_old (x := (b'.id, b', vd, c)) h4.1
      exact ⟨h7, by rw [h8, ← h4.2.2]; omega⟩
  · rcases key k b' hk with hk | ⟨rfl, rfl⟩
    · exact hw.above k b' hk
    · have := hlev _ h4.1
      omega
  · rw [blkOf_snoc, hw.noroot, if_neg (fun he => hnr he.symm)]
    rfl
  · rcases List.mem_append.1 hx with hx | hx
    · exact hw.small x hx
    · obtain rfl : x = (b.id, b, vd, c) := by simpa using hx
      unfold Blk.chk at h1
      split at h1
      · cases h1
      · show b.d.length ≤ 200
        omega
end Go.Fx
