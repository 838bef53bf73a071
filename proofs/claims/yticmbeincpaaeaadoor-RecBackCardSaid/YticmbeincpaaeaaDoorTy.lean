/-
  The types of this seat: what each is, how arguments of it are read, how a variable of it is made; printed by program.
-/
import Derived.Test.YticmbeincpaaeaaDoorFxV
import Derived.Test.YticmbeincpaaeaaDoorGen
set_option linter.unusedVariables false
set_option maxRecDepth 100000
namespace Go.Fx
theorem someNe {α : Type} {o : Option α} (h : o.isSome = true) : o ≠ none := by intro h2; rw [h2] at h; cases h
theorem U_int64 : P.underlying T_int64 = some (.int .i64) := by kernel_rfl
theorem Z_int64 : zc P T_int64 = #[(Value.int IntKind.i64 0)] := by kernel_rfl
theorem U_int : P.underlying T_int = some (.int .i64) := by kernel_rfl
theorem Z_int : zc P T_int = #[(Value.int IntKind.i64 0)] := by kernel_rfl
theorem U_bool : P.underlying T_bool = some .bool := by kernel_rfl
theorem Z_bool : zc P T_bool = #[(Value.bool false)] := by kernel_rfl
theorem U_uint8 : P.underlying T_uint8 = some (.int .u8) := by kernel_rfl
theorem Z_uint8 : zc P T_uint8 = #[(Value.int IntKind.u8 0)] := by kernel_rfl
theorem U_string : P.underlying T_string = some .string := by kernel_rfl
theorem U_uintptr : P.underlying T_uintptr = some (.int .u64) := by kernel_rfl
theorem Z_uintptr : zc P T_uintptr = #[(Value.int IntKind.u64 0)] := by kernel_rfl
theorem U_int32 : P.underlying T_int32 = some (.int .i32) := by kernel_rfl
theorem Z_int32 : zc P T_int32 = #[(Value.int IntKind.i32 0)] := by kernel_rfl
theorem U_sl_uint8 : P.underlying T_sl_uint8 = some (.slice T_uint8) := by kernel_rfl
theorem Z_sl_uint8 : zc P T_sl_uint8 = #[(Value.slice none 0 0)] := by kernel_rfl
theorem S_sl_uint8 : SlT P T_sl_uint8 T_uint8 1 1 := ⟨by kernel_rfl, by kernel_rfl, by kernel_rfl, someNe (by kernel_rfl), by kernel_rfl, by decide⟩
theorem U_a32_uint8 : P.underlying T_a32_uint8 = some (.array 32 T_uint8) := by kernel_rfl
theorem Z_a32_uint8 : zc P T_a32_uint8 = ((List.replicate 32 (Value.int IntKind.u8 0) : List Value).toArray) := by kernel_rfl
theorem al_a32_uint8 (w : World) : (Instr.alloc T_a32_uint8 true (.tuple #[])).run P w = .ok (.pointer (some ⟨w.heap.size, 0, none⟩)) (w.alloc (.cells ((List.replicate 32 (Value.int IntKind.u8 0) : List Value).toArray) T_a32_uint8)) := by kernel_rfl
theorem U_api_ID : P.underlying T_api_ID = some (.array 32 T_uint8) := by kernel_rfl
theorem Z_api_ID : zc P T_api_ID = ((List.replicate 32 (Value.int IntKind.u8 0) : List Value).toArray) := by kernel_rfl
theorem al_api_ID (w : World) : (Instr.alloc T_api_ID true (.tuple #[])).run P w = .ok (.pointer (some ⟨w.heap.size, 0, none⟩)) (w.alloc (.cells ((List.replicate 32 (Value.int IntKind.u8 0) : List Value).toArray) T_api_ID)) := by kernel_rfl
theorem U_api_Block : P.underlying T_api_Block = some (.struct (fsOf P T_api_Block)) := by kernel_rfl
theorem Z_api_Block : zc P T_api_Block = ((List.replicate 32 (Value.int IntKind.u8 0) ++ [(Value.int IntKind.i64 0)] ++ [(Value.slice none 0 0)] : List Value).toArray) := by kernel_rfl
theorem al_api_Block (w : World) : (Instr.alloc T_api_Block true (.tuple #[])).run P w = .ok (.pointer (some ⟨w.heap.size, 0, none⟩)) (w.alloc (.cells ((List.replicate 32 (Value.int IntKind.u8 0) ++ [(Value.int IntKind.i64 0)] ++ [(Value.slice none 0 0)] : List Value).toArray) T_api_Block)) := by kernel_rfl
theorem U_api_Errno : P.underlying T_api_Errno = some (.int .i64) := by kernel_rfl
theorem Z_api_Errno : zc P T_api_Errno = #[(Value.int IntKind.i64 0)] := by kernel_rfl
theorem U_sl_api_Block : P.underlying T_sl_api_Block = some (.slice T_api_Block) := by kernel_rfl
theorem Z_sl_api_Block : zc P T_sl_api_Block = #[(Value.slice none 0 0)] := by kernel_rfl
theorem S_sl_api_Block : SlT P T_sl_api_Block T_api_Block 34 64 := ⟨by kernel_rfl, by kernel_rfl, by kernel_rfl, someNe (by kernel_rfl), by kernel_rfl, by decide⟩
theorem U_uint16 : P.underlying T_uint16 = some (.int .u16) := by kernel_rfl
theorem Z_uint16 : zc P T_uint16 = #[(Value.int IntKind.u16 0)] := by kernel_rfl
theorem U_sl_int : P.underlying T_sl_int = some (.slice T_int) := by kernel_rfl
theorem Z_sl_int : zc P T_sl_int = #[(Value.slice none 0 0)] := by kernel_rfl
theorem S_sl_int : SlT P T_sl_int T_int 1 8 := ⟨by kernel_rfl, by kernel_rfl, by kernel_rfl, someNe (by kernel_rfl), by kernel_rfl, by decide⟩
theorem U_uint32 : P.underlying T_uint32 = some (.int .u32) := by kernel_rfl
theorem Z_uint32 : zc P T_uint32 = #[(Value.int IntKind.u32 0)] := by kernel_rfl
theorem U_p_pack_Unpacker : P.underlying T_p_pack_Unpacker = some (.pointer T_pack_Unpacker) := by kernel_rfl
theorem Z_p_pack_Unpacker : zc P T_p_pack_Unpacker = #[(Value.pointer none)] := by kernel_rfl
theorem U_uint64 : P.underlying T_uint64 = some (.int .u64) := by kernel_rfl
theorem Z_uint64 : zc P T_uint64 = #[(Value.int IntKind.u64 0)] := by kernel_rfl
theorem U_p_pack_Packer : P.underlying T_p_pack_Packer = some (.pointer T_pack_Packer) := by kernel_rfl
theorem Z_p_pack_Packer : zc P T_p_pack_Packer = #[(Value.pointer none)] := by kernel_rfl
theorem U_sl_sl_uint8 : P.underlying T_sl_sl_uint8 = some (.slice T_sl_uint8) := by kernel_rfl
theorem Z_sl_sl_uint8 : zc P T_sl_sl_uint8 = #[(Value.slice none 0 0)] := by kernel_rfl
theorem S_sl_sl_uint8 : SlT P T_sl_sl_uint8 T_sl_uint8 1 24 := ⟨by kernel_rfl, by kernel_rfl, by kernel_rfl, someNe (by kernel_rfl), by kernel_rfl, by decide⟩
theorem U_pack_kept : P.underlying T_pack_kept = some (.struct (fsOf P T_pack_kept)) := by kernel_rfl
theorem Z_pack_kept : zc P T_pack_kept = #[(Value.bool false), (Value.slice none 0 0), (Value.int IntKind.i64 0)] := by kernel_rfl
theorem al_pack_kept (w : World) : (Instr.alloc T_pack_kept true (.tuple #[])).run P w = .ok (.pointer (some ⟨w.heap.size, 0, none⟩)) (w.alloc (.cells #[(Value.bool false), (Value.slice none 0 0), (Value.int IntKind.i64 0)] T_pack_kept)) := by kernel_rfl
theorem U_pack_Unpacker : P.underlying T_pack_Unpacker = some (.struct (fsOf P T_pack_Unpacker)) := by kernel_rfl
theorem Z_pack_Unpacker : zc P T_pack_Unpacker = #[(Value.bool false), (Value.slice none 0 0), (Value.int IntKind.i64 0)] := by kernel_rfl
theorem al_pack_Unpacker (w : World) : (Instr.alloc T_pack_Unpacker true (.tuple #[])).run P w = .ok (.pointer (some ⟨w.heap.size, 0, none⟩)) (w.alloc (.cells #[(Value.bool false), (Value.slice none 0 0), (Value.int IntKind.i64 0)] T_pack_Unpacker)) := by kernel_rfl
theorem U_p_sha_State : P.underlying T_p_sha_State = some (.pointer T_sha_State) := by kernel_rfl
theorem Z_p_sha_State : zc P T_p_sha_State = #[(Value.pointer none)] := by kernel_rfl
theorem U_pack_Packer : P.underlying T_pack_Packer = some (.struct (fsOf P T_pack_Packer)) := by kernel_rfl
theorem Z_pack_Packer : zc P T_pack_Packer = #[(Value.bool false), (Value.slice none 0 0), (Value.int IntKind.i64 0), (Value.int IntKind.i64 0)] := by kernel_rfl
theorem al_pack_Packer (w : World) : (Instr.alloc T_pack_Packer true (.tuple #[])).run P w = .ok (.pointer (some ⟨w.heap.size, 0, none⟩)) (w.alloc (.cells #[(Value.bool false), (Value.slice none 0 0), (Value.int IntKind.i64 0), (Value.int IntKind.i64 0)] T_pack_Packer)) := by kernel_rfl
theorem U_a8_uint32 : P.underlying T_a8_uint32 = some (.array 8 T_uint32) := by kernel_rfl
theorem Z_a8_uint32 : zc P T_a8_uint32 = #[(Value.int IntKind.u32 0), (Value.int IntKind.u32 0), (Value.int IntKind.u32 0), (Value.int IntKind.u32 0), (Value.int IntKind.u32 0), (Value.int IntKind.u32 0), (Value.int IntKind.u32 0), (Value.int IntKind.u32 0)] := by kernel_rfl
theorem al_a8_uint32 (w : World) : (Instr.alloc T_a8_uint32 true (.tuple #[])).run P w = .ok (.pointer (some ⟨w.heap.size, 0, none⟩)) (w.alloc (.cells #[(Value.int IntKind.u32 0), (Value.int IntKind.u32 0), (Value.int IntKind.u32 0), (Value.int IntKind.u32 0), (Value.int IntKind.u32 0), (Value.int IntKind.u32 0), (Value.int IntKind.u32 0), (Value.int IntKind.u32 0)] T_a8_uint32)) := by kernel_rfl
theorem U_sha_State : P.underlying T_sha_State = some (.struct (fsOf P T_sha_State)) := by kernel_rfl
theorem Z_sha_State : zc P T_sha_State = ((List.replicate 8 (Value.int IntKind.u32 0) ++ [(Value.slice none 0 0)] ++ [(Value.int IntKind.i64 0)] ++ [(Value.bool false)] : List Value).toArray) := by kernel_rfl
theorem al_sha_State (w : World) : (Instr.alloc T_sha_State true (.tuple #[])).run P w = .ok (.pointer (some ⟨w.heap.size, 0, none⟩)) (w.alloc (.cells ((List.replicate 8 (Value.int IntKind.u32 0) ++ [(Value.slice none 0 0)] ++ [(Value.int IntKind.i64 0)] ++ [(Value.bool false)] : List Value).toArray) T_sha_State)) := by kernel_rfl
theorem U_a64_uint32 : P.underlying T_a64_uint32 = some (.array 64 T_uint32) := by kernel_rfl
theorem Z_a64_uint32 : zc P T_a64_uint32 = ((List.replicate 64 (Value.int IntKind.u32 0) : List Value).toArray) := by kernel_rfl
theorem al_a64_uint32 (w : World) : (Instr.alloc T_a64_uint32 true (.tuple #[])).run P w = .ok (.pointer (some ⟨w.heap.size, 0, none⟩)) (w.alloc (.cells ((List.replicate 64 (Value.int IntKind.u32 0) : List Value).toArray) T_a64_uint32)) := by kernel_rfl
theorem U_p_pack_kept : P.underlying T_p_pack_kept = some (.pointer T_pack_kept) := by kernel_rfl
theorem Z_p_pack_kept : zc P T_p_pack_kept = #[(Value.pointer none)] := by kernel_rfl
theorem U_a0_p_runtime_PanicNilError : P.underlying T_a0_p_runtime_PanicNilError = some (.array 0 T_p_runtime_PanicNilError) := by kernel_rfl
theorem Z_a0_p_runtime_PanicNilError : zc P T_a0_p_runtime_PanicNilError = #[] := by kernel_rfl
theorem al_a0_p_runtime_PanicNilError (w : World) : (Instr.alloc T_a0_p_runtime_PanicNilError true (.tuple #[])).run P w = .ok (.pointer (some ⟨w.heap.size, 0, none⟩)) (w.alloc (.cells #[] T_a0_p_runtime_PanicNilError)) := by kernel_rfl
theorem U_p_uint8 : P.underlying T_p_uint8 = some (.pointer T_uint8) := by kernel_rfl
theorem Z_p_uint8 : zc P T_p_uint8 = #[(Value.pointer none)] := by kernel_rfl
abbrev Q_api_Block := (Rdr.pair (rVec 32) (Rdr.pair (rInt .i64) qv))
theorem L_api_Block {h : Heap} {g : Nat} {t : TypeId} {fr : Nat × Nat} {a} (hg : h[g]? = some (.cells (Rdr.cells Q_api_Block a).toArray t fr)) (K : Value → Prop) : ldN 34 (.pointer (some ⟨g, 0, none⟩)) h K = K (.agg (Rdr.cells Q_api_Block a).toArray) := Fld.ldN (r := Q_api_Block) (s := Q_api_Block) Fld.self hg K
theorem LA_api_Block {h : Heap} {g o : Nat} {a} (hg : At h g o (Rdr.cells Q_api_Block a)) (K : Value → Prop) : ldN 34 (.pointer (some ⟨g, o, none⟩)) h K = K (.agg (Rdr.cells Q_api_Block a).toArray) := Fld.ldNA (r := Q_api_Block) (s := Q_api_Block) Fld.self hg K
theorem St_api_Block {w0 w : World} {As : List Asn} {g : Nat} {t : TypeId} {a} {b} {K : World → Prop} (hs : Sep w0 w (blk g (Rdr.cells Q_api_Block a).toArray t :: As)) (h1 : ∀ u ∈ Rdr.cells Q_api_Block b, u.oneCell' = true) (h : ∀ w', Sep w0 w' (blk g (Rdr.cells Q_api_Block b).toArray t :: As) → K w') : stN 34 (.pointer (some ⟨g, 0, none⟩)) (.agg (Rdr.cells Q_api_Block b).toArray) w K := Fld.stN (r := Q_api_Block) (s := Q_api_Block) Fld.self hs h1 h
theorem L_api_Block__Parent {h : Heap} {g : Nat} {t : TypeId} {fr : Nat × Nat} {a} (hg : h[g]? = some (.cells (Rdr.cells Q_api_Block a).toArray t fr)) (K : Value → Prop) : ldN 32 (.pointer (some ⟨g, 0, none⟩)) h K = K (.agg (Rdr.cells (rVec 32) a.1).toArray) := Fld.ldN (r := Q_api_Block) (s := (rVec 32)) (Fld.fst Fld.self) hg K
theorem LA_api_Block__Parent {h : Heap} {g o : Nat} {a} (hg : At h g o (Rdr.cells Q_api_Block a)) (K : Value → Prop) : ldN 32 (.pointer (some ⟨g, o, none⟩)) h K = K (.agg (Rdr.cells (rVec 32) a.1).toArray) := Fld.ldNA (r := Q_api_Block) (s := (rVec 32)) (Fld.fst Fld.self) hg K
theorem St_api_Block__Parent {w0 w : World} {As : List Asn} {g : Nat} {t : TypeId} {a} {b} {K : World → Prop} (hs : Sep w0 w (blk g (Rdr.cells Q_api_Block a).toArray t :: As)) (h1 : ∀ u ∈ Rdr.cells (rVec 32) b, u.oneCell' = true) (h : ∀ w', Sep w0 w' (blk g (Rdr.cells Q_api_Block (b, a.2.1, a.2.2)).toArray t :: As) → K w') : stN 32 (.pointer (some ⟨g, 0, none⟩)) (.agg (Rdr.cells (rVec 32) b).toArray) w K := Fld.stN (r := Q_api_Block) (s := (rVec 32)) (Fld.fst Fld.self) hs h1 h
theorem L_api_Block__Height {h : Heap} {g : Nat} {t : TypeId} {fr : Nat × Nat} {a} (hg : h[g]? = some (.cells (Rdr.cells Q_api_Block a).toArray t fr)) (K : Value → Prop) : ld1 (.pointer (some ⟨g, 32, none⟩)) h K = K (.int .i64 a.2.1) := Fld.ldI (r := Q_api_Block) (Fld.snd (Fld.fst Fld.self)) hg K
theorem LA_api_Block__Height {h : Heap} {g o : Nat} {a} (hg : At h g o (Rdr.cells Q_api_Block a)) (K : Value → Prop) : ld1 (.pointer (some ⟨g, o + 32, none⟩)) h K = K (.int .i64 a.2.1) := Fld.ldI' (r := Q_api_Block) (Fld.snd (Fld.fst Fld.self)) hg K
theorem St_api_Block__Height {w0 w : World} {As : List Asn} {g : Nat} {t : TypeId} {a} {b} {K : World → Prop} (hs : Sep w0 w (blk g (Rdr.cells Q_api_Block a).toArray t :: As)) (h : ∀ w', Sep w0 w' (blk g (Rdr.cells Q_api_Block (a.1, b, a.2.2)).toArray t :: As) → K w') : st1 (.pointer (some ⟨g, 32, none⟩)) (.int .i64 b) w K := Fld.stV (r := Q_api_Block) (s := (rInt .i64)) (Fld.snd (Fld.fst Fld.self)) rfl hs rfl h
theorem L_api_Block__Data {h : Heap} {g : Nat} {t : TypeId} {fr : Nat × Nat} {a} (hg : h[g]? = some (.cells (Rdr.cells Q_api_Block a).toArray t fr)) (K : Value → Prop) : ld1 (.pointer (some ⟨g, 33, none⟩)) h K = K (a.2.2) := Fld.ld1 (r := Q_api_Block) (Fld.snd (Fld.snd Fld.self)) hg K
theorem LA_api_Block__Data {h : Heap} {g o : Nat} {a} (hg : At h g o (Rdr.cells Q_api_Block a)) (K : Value → Prop) : ld1 (.pointer (some ⟨g, o + 33, none⟩)) h K = K (a.2.2) := Fld.ld1A (r := Q_api_Block) (Fld.snd (Fld.snd Fld.self)) hg K
theorem St_api_Block__Data {w0 w : World} {As : List Asn} {g : Nat} {t : TypeId} {a} {b} {K : World → Prop} (hs : Sep w0 w (blk g (Rdr.cells Q_api_Block a).toArray t :: As)) (h1 : b.oneCell' = true) (h : ∀ w', Sep w0 w' (blk g (Rdr.cells Q_api_Block (a.1, a.2.1, b)).toArray t :: As) → K w') : st1 (.pointer (some ⟨g, 33, none⟩)) (b) w K := Fld.stV (r := Q_api_Block) (s := qv) (Fld.snd (Fld.snd Fld.self)) rfl hs h1 h
theorem one_api_Block {a} (h0 : (a.2.2).oneCell' = true) : ∀ u ∈ Rdr.cells Q_api_Block a, u.oneCell' = true := (onePair oneVec (onePair oneI (oneV h0)))
theorem A_api_Block (w : World) : (Instr.alloc T_api_Block true (.tuple #[])).run P w = .ok (.pointer (some ⟨w.heap.size, 0, none⟩)) (w.alloc (.cells (Rdr.cells Q_api_Block ((vz 32), (0 : Int), ((Value.slice none 0 0)))).toArray T_api_Block)) := by kernel_rfl
theorem pl_api_Block : ((fsOf P T_api_Block).toList.mapM fun f : Field => (P.info? f.type).map fun i => (f.offset, i.size)) = some (#[(0, 32), (32, 1), (33, 1)] : Array (Nat × Nat)).toList := by kernel_rfl
theorem z_api_Block : ((P.info? T_api_Block).bind fun it => it.zero.map fun z => z.cells) = some (Rdr.cells Q_api_Block ((vz 32), (0 : Int), ((Value.slice none 0 0)))).toArray := by kernel_rfl
abbrev Q_pack_kept := (Rdr.pair rBool (Rdr.pair qv (rInt .i64)))
theorem L_pack_kept {h : Heap} {g : Nat} {t : TypeId} {fr : Nat × Nat} {a} (hg : h[g]? = some (.cells (Rdr.cells Q_pack_kept a).toArray t fr)) (K : Value → Prop) : ldN 3 (.pointer (some ⟨g, 0, none⟩)) h K = K (.agg (Rdr.cells Q_pack_kept a).toArray) := Fld.ldN (r := Q_pack_kept) (s := Q_pack_kept) Fld.self hg K
theorem LA_pack_kept {h : Heap} {g o : Nat} {a} (hg : At h g o (Rdr.cells Q_pack_kept a)) (K : Value → Prop) : ldN 3 (.pointer (some ⟨g, o, none⟩)) h K = K (.agg (Rdr.cells Q_pack_kept a).toArray) := Fld.ldNA (r := Q_pack_kept) (s := Q_pack_kept) Fld.self hg K
theorem St_pack_kept {w0 w : World} {As : List Asn} {g : Nat} {t : TypeId} {a} {b} {K : World → Prop} (hs : Sep w0 w (blk g (Rdr.cells Q_pack_kept a).toArray t :: As)) (h1 : ∀ u ∈ Rdr.cells Q_pack_kept b, u.oneCell' = true) (h : ∀ w', Sep w0 w' (blk g (Rdr.cells Q_pack_kept b).toArray t :: As) → K w') : stN 3 (.pointer (some ⟨g, 0, none⟩)) (.agg (Rdr.cells Q_pack_kept b).toArray) w K := Fld.stN (r := Q_pack_kept) (s := Q_pack_kept) Fld.self hs h1 h
theorem L_pack_kept__made {h : Heap} {g : Nat} {t : TypeId} {fr : Nat × Nat} {a} (hg : h[g]? = some (.cells (Rdr.cells Q_pack_kept a).toArray t fr)) (K : Value → Prop) : ld1 (.pointer (some ⟨g, 0, none⟩)) h K = K (.bool a.1) := Fld.ldB (r := Q_pack_kept) (Fld.fst Fld.self) hg K
theorem LA_pack_kept__made {h : Heap} {g o : Nat} {a} (hg : At h g o (Rdr.cells Q_pack_kept a)) (K : Value → Prop) : ld1 (.pointer (some ⟨g, o, none⟩)) h K = K (.bool a.1) := Fld.ldB' (r := Q_pack_kept) (Fld.fst Fld.self) hg K
theorem St_pack_kept__made {w0 w : World} {As : List Asn} {g : Nat} {t : TypeId} {a} {b} {K : World → Prop} (hs : Sep w0 w (blk g (Rdr.cells Q_pack_kept a).toArray t :: As)) (h : ∀ w', Sep w0 w' (blk g (Rdr.cells Q_pack_kept (b, a.2.1, a.2.2)).toArray t :: As) → K w') : st1 (.pointer (some ⟨g, 0, none⟩)) (.bool b) w K := Fld.stV (r := Q_pack_kept) (s := rBool) (Fld.fst Fld.self) rfl hs rfl h
theorem L_pack_kept__b {h : Heap} {g : Nat} {t : TypeId} {fr : Nat × Nat} {a} (hg : h[g]? = some (.cells (Rdr.cells Q_pack_kept a).toArray t fr)) (K : Value → Prop) : ld1 (.pointer (some ⟨g, 1, none⟩)) h K = K (a.2.1) := Fld.ld1 (r := Q_pack_kept) (Fld.snd (Fld.fst Fld.self)) hg K
theorem LA_pack_kept__b {h : Heap} {g o : Nat} {a} (hg : At h g o (Rdr.cells Q_pack_kept a)) (K : Value → Prop) : ld1 (.pointer (some ⟨g, o + 1, none⟩)) h K = K (a.2.1) := Fld.ld1A (r := Q_pack_kept) (Fld.snd (Fld.fst Fld.self)) hg K
theorem St_pack_kept__b {w0 w : World} {As : List Asn} {g : Nat} {t : TypeId} {a} {b} {K : World → Prop} (hs : Sep w0 w (blk g (Rdr.cells Q_pack_kept a).toArray t :: As)) (h1 : b.oneCell' = true) (h : ∀ w', Sep w0 w' (blk g (Rdr.cells Q_pack_kept (a.1, b, a.2.2)).toArray t :: As) → K w') : st1 (.pointer (some ⟨g, 1, none⟩)) (b) w K := Fld.stV (r := Q_pack_kept) (s := qv) (Fld.snd (Fld.fst Fld.self)) rfl hs h1 h
theorem L_pack_kept__err {h : Heap} {g : Nat} {t : TypeId} {fr : Nat × Nat} {a} (hg : h[g]? = some (.cells (Rdr.cells Q_pack_kept a).toArray t fr)) (K : Value → Prop) : ld1 (.pointer (some ⟨g, 2, none⟩)) h K = K (.int .i64 a.2.2) := Fld.ldI (r := Q_pack_kept) (Fld.snd (Fld.snd Fld.self)) hg K
theorem LA_pack_kept__err {h : Heap} {g o : Nat} {a} (hg : At h g o (Rdr.cells Q_pack_kept a)) (K : Value → Prop) : ld1 (.pointer (some ⟨g, o + 2, none⟩)) h K = K (.int .i64 a.2.2) := Fld.ldI' (r := Q_pack_kept) (Fld.snd (Fld.snd Fld.self)) hg K
theorem St_pack_kept__err {w0 w : World} {As : List Asn} {g : Nat} {t : TypeId} {a} {b} {K : World → Prop} (hs : Sep w0 w (blk g (Rdr.cells Q_pack_kept a).toArray t :: As)) (h : ∀ w', Sep w0 w' (blk g (Rdr.cells Q_pack_kept (a.1, a.2.1, b)).toArray t :: As) → K w') : st1 (.pointer (some ⟨g, 2, none⟩)) (.int .i64 b) w K := Fld.stV (r := Q_pack_kept) (s := (rInt .i64)) (Fld.snd (Fld.snd Fld.self)) rfl hs rfl h
theorem one_pack_kept {a} (h0 : (a.2.1).oneCell' = true) : ∀ u ∈ Rdr.cells Q_pack_kept a, u.oneCell' = true := (onePair oneB (onePair (oneV h0) oneI))
theorem A_pack_kept (w : World) : (Instr.alloc T_pack_kept true (.tuple #[])).run P w = .ok (.pointer (some ⟨w.heap.size, 0, none⟩)) (w.alloc (.cells (Rdr.cells Q_pack_kept (false, ((Value.slice none 0 0)), (0 : Int))).toArray T_pack_kept)) := by kernel_rfl
theorem pl_pack_kept : ((fsOf P T_pack_kept).toList.mapM fun f : Field => (P.info? f.type).map fun i => (f.offset, i.size)) = some (#[(0, 1), (1, 1), (2, 1)] : Array (Nat × Nat)).toList := by kernel_rfl
theorem z_pack_kept : ((P.info? T_pack_kept).bind fun it => it.zero.map fun z => z.cells) = some (Rdr.cells Q_pack_kept (false, ((Value.slice none 0 0)), (0 : Int))).toArray := by kernel_rfl
abbrev Q_pack_Unpacker := Q_pack_kept
theorem L_pack_Unpacker {h : Heap} {g : Nat} {t : TypeId} {fr : Nat × Nat} {a} (hg : h[g]? = some (.cells (Rdr.cells Q_pack_Unpacker a).toArray t fr)) (K : Value → Prop) : ldN 3 (.pointer (some ⟨g, 0, none⟩)) h K = K (.agg (Rdr.cells Q_pack_Unpacker a).toArray) := Fld.ldN (r := Q_pack_Unpacker) (s := Q_pack_Unpacker) Fld.self hg K
theorem LA_pack_Unpacker {h : Heap} {g o : Nat} {a} (hg : At h g o (Rdr.cells Q_pack_Unpacker a)) (K : Value → Prop) : ldN 3 (.pointer (some ⟨g, o, none⟩)) h K = K (.agg (Rdr.cells Q_pack_Unpacker a).toArray) := Fld.ldNA (r := Q_pack_Unpacker) (s := Q_pack_Unpacker) Fld.self hg K
theorem St_pack_Unpacker {w0 w : World} {As : List Asn} {g : Nat} {t : TypeId} {a} {b} {K : World → Prop} (hs : Sep w0 w (blk g (Rdr.cells Q_pack_Unpacker a).toArray t :: As)) (h1 : ∀ u ∈ Rdr.cells Q_pack_Unpacker b, u.oneCell' = true) (h : ∀ w', Sep w0 w' (blk g (Rdr.cells Q_pack_Unpacker b).toArray t :: As) → K w') : stN 3 (.pointer (some ⟨g, 0, none⟩)) (.agg (Rdr.cells Q_pack_Unpacker b).toArray) w K := Fld.stN (r := Q_pack_Unpacker) (s := Q_pack_Unpacker) Fld.self hs h1 h
theorem L_pack_Unpacker__kept {h : Heap} {g : Nat} {t : TypeId} {fr : Nat × Nat} {a} (hg : h[g]? = some (.cells (Rdr.cells Q_pack_Unpacker a).toArray t fr)) (K : Value → Prop) : ldN 3 (.pointer (some ⟨g, 0, none⟩)) h K = K (.agg (Rdr.cells Q_pack_kept a).toArray) := Fld.ldN (r := Q_pack_Unpacker) (s := Q_pack_kept) Fld.self hg K
theorem LA_pack_Unpacker__kept {h : Heap} {g o : Nat} {a} (hg : At h g o (Rdr.cells Q_pack_Unpacker a)) (K : Value → Prop) : ldN 3 (.pointer (some ⟨g, o, none⟩)) h K = K (.agg (Rdr.cells Q_pack_kept a).toArray) := Fld.ldNA (r := Q_pack_Unpacker) (s := Q_pack_kept) Fld.self hg K
theorem St_pack_Unpacker__kept {w0 w : World} {As : List Asn} {g : Nat} {t : TypeId} {a} {b} {K : World → Prop} (hs : Sep w0 w (blk g (Rdr.cells Q_pack_Unpacker a).toArray t :: As)) (h1 : ∀ u ∈ Rdr.cells Q_pack_kept b, u.oneCell' = true) (h : ∀ w', Sep w0 w' (blk g (Rdr.cells Q_pack_Unpacker (b)).toArray t :: As) → K w') : stN 3 (.pointer (some ⟨g, 0, none⟩)) (.agg (Rdr.cells Q_pack_kept b).toArray) w K := Fld.stN (r := Q_pack_Unpacker) (s := Q_pack_kept) Fld.self hs h1 h
theorem L_pack_Unpacker__kept_made {h : Heap} {g : Nat} {t : TypeId} {fr : Nat × Nat} {a} (hg : h[g]? = some (.cells (Rdr.cells Q_pack_Unpacker a).toArray t fr)) (K : Value → Prop) : ld1 (.pointer (some ⟨g, 0, none⟩)) h K = K (.bool a.1) := Fld.ldB (r := Q_pack_Unpacker) (Fld.fst Fld.self) hg K
theorem LA_pack_Unpacker__kept_made {h : Heap} {g o : Nat} {a} (hg : At h g o (Rdr.cells Q_pack_Unpacker a)) (K : Value → Prop) : ld1 (.pointer (some ⟨g, o, none⟩)) h K = K (.bool a.1) := Fld.ldB' (r := Q_pack_Unpacker) (Fld.fst Fld.self) hg K
theorem St_pack_Unpacker__kept_made {w0 w : World} {As : List Asn} {g : Nat} {t : TypeId} {a} {b} {K : World → Prop} (hs : Sep w0 w (blk g (Rdr.cells Q_pack_Unpacker a).toArray t :: As)) (h : ∀ w', Sep w0 w' (blk g (Rdr.cells Q_pack_Unpacker ((b, a.2.1, a.2.2))).toArray t :: As) → K w') : st1 (.pointer (some ⟨g, 0, none⟩)) (.bool b) w K := Fld.stV (r := Q_pack_Unpacker) (s := rBool) (Fld.fst Fld.self) rfl hs rfl h
theorem L_pack_Unpacker__kept_b {h : Heap} {g : Nat} {t : TypeId} {fr : Nat × Nat} {a} (hg : h[g]? = some (.cells (Rdr.cells Q_pack_Unpacker a).toArray t fr)) (K : Value → Prop) : ld1 (.pointer (some ⟨g, 1, none⟩)) h K = K (a.2.1) := Fld.ld1 (r := Q_pack_Unpacker) (Fld.snd (Fld.fst Fld.self)) hg K
theorem LA_pack_Unpacker__kept_b {h : Heap} {g o : Nat} {a} (hg : At h g o (Rdr.cells Q_pack_Unpacker a)) (K : Value → Prop) : ld1 (.pointer (some ⟨g, o + 1, none⟩)) h K = K (a.2.1) := Fld.ld1A (r := Q_pack_Unpacker) (Fld.snd (Fld.fst Fld.self)) hg K
theorem St_pack_Unpacker__kept_b {w0 w : World} {As : List Asn} {g : Nat} {t : TypeId} {a} {b} {K : World → Prop} (hs : Sep w0 w (blk g (Rdr.cells Q_pack_Unpacker a).toArray t :: As)) (h1 : b.oneCell' = true) (h : ∀ w', Sep w0 w' (blk g (Rdr.cells Q_pack_Unpacker ((a.1, b, a.2.2))).toArray t :: As) → K w') : st1 (.pointer (some ⟨g, 1, none⟩)) (b) w K := Fld.stV (r := Q_pack_Unpacker) (s := qv) (Fld.snd (Fld.fst Fld.self)) rfl hs h1 h
theorem L_pack_Unpacker__kept_err {h : Heap} {g : Nat} {t : TypeId} {fr : Nat × Nat} {a} (hg : h[g]? = some (.cells (Rdr.cells Q_pack_Unpacker a).toArray t fr)) (K : Value → Prop) : ld1 (.pointer (some ⟨g, 2, none⟩)) h K = K (.int .i64 a.2.2) := Fld.ldI (r := Q_pack_Unpacker) (Fld.snd (Fld.snd Fld.self)) hg K
theorem LA_pack_Unpacker__kept_err {h : Heap} {g o : Nat} {a} (hg : At h g o (Rdr.cells Q_pack_Unpacker a)) (K : Value → Prop) : ld1 (.pointer (some ⟨g, o + 2, none⟩)) h K = K (.int .i64 a.2.2) := Fld.ldI' (r := Q_pack_Unpacker) (Fld.snd (Fld.snd Fld.self)) hg K
theorem St_pack_Unpacker__kept_err {w0 w : World} {As : List Asn} {g : Nat} {t : TypeId} {a} {b} {K : World → Prop} (hs : Sep w0 w (blk g (Rdr.cells Q_pack_Unpacker a).toArray t :: As)) (h : ∀ w', Sep w0 w' (blk g (Rdr.cells Q_pack_Unpacker ((a.1, a.2.1, b))).toArray t :: As) → K w') : st1 (.pointer (some ⟨g, 2, none⟩)) (.int .i64 b) w K := Fld.stV (r := Q_pack_Unpacker) (s := (rInt .i64)) (Fld.snd (Fld.snd Fld.self)) rfl hs rfl h
theorem one_pack_Unpacker {a} (h0 : (a.2.1).oneCell' = true) : ∀ u ∈ Rdr.cells Q_pack_Unpacker a, u.oneCell' = true := (onePair oneB (onePair (oneV h0) oneI))
theorem A_pack_Unpacker (w : World) : (Instr.alloc T_pack_Unpacker true (.tuple #[])).run P w = .ok (.pointer (some ⟨w.heap.size, 0, none⟩)) (w.alloc (.cells (Rdr.cells Q_pack_Unpacker ((false, ((Value.slice none 0 0)), (0 : Int)))).toArray T_pack_Unpacker)) := by kernel_rfl
theorem pl_pack_Unpacker : ((fsOf P T_pack_Unpacker).toList.mapM fun f : Field => (P.info? f.type).map fun i => (f.offset, i.size)) = some (#[(0, 3)] : Array (Nat × Nat)).toList := by kernel_rfl
theorem z_pack_Unpacker : ((P.info? T_pack_Unpacker).bind fun it => it.zero.map fun z => z.cells) = some (Rdr.cells Q_pack_Unpacker ((false, ((Value.slice none 0 0)), (0 : Int)))).toArray := by kernel_rfl
abbrev Q_pack_Packer := (Rdr.pair Q_pack_kept (rInt .i64))
theorem L_pack_Packer {h : Heap} {g : Nat} {t : TypeId} {fr : Nat × Nat} {a} (hg : h[g]? = some (.cells (Rdr.cells Q_pack_Packer a).toArray t fr)) (K : Value → Prop) : ldN 4 (.pointer (some ⟨g, 0, none⟩)) h K = K (.agg (Rdr.cells Q_pack_Packer a).toArray) := Fld.ldN (r := Q_pack_Packer) (s := Q_pack_Packer) Fld.self hg K
theorem LA_pack_Packer {h : Heap} {g o : Nat} {a} (hg : At h g o (Rdr.cells Q_pack_Packer a)) (K : Value → Prop) : ldN 4 (.pointer (some ⟨g, o, none⟩)) h K = K (.agg (Rdr.cells Q_pack_Packer a).toArray) := Fld.ldNA (r := Q_pack_Packer) (s := Q_pack_Packer) Fld.self hg K
theorem St_pack_Packer {w0 w : World} {As : List Asn} {g : Nat} {t : TypeId} {a} {b} {K : World → Prop} (hs : Sep w0 w (blk g (Rdr.cells Q_pack_Packer a).toArray t :: As)) (h1 : ∀ u ∈ Rdr.cells Q_pack_Packer b, u.oneCell' = true) (h : ∀ w', Sep w0 w' (blk g (Rdr.cells Q_pack_Packer b).toArray t :: As) → K w') : stN 4 (.pointer (some ⟨g, 0, none⟩)) (.agg (Rdr.cells Q_pack_Packer b).toArray) w K := Fld.stN (r := Q_pack_Packer) (s := Q_pack_Packer) Fld.self hs h1 h
theorem L_pack_Packer__kept {h : Heap} {g : Nat} {t : TypeId} {fr : Nat × Nat} {a} (hg : h[g]? = some (.cells (Rdr.cells Q_pack_Packer a).toArray t fr)) (K : Value → Prop) : ldN 3 (.pointer (some ⟨g, 0, none⟩)) h K = K (.agg (Rdr.cells Q_pack_kept a.1).toArray) := Fld.ldN (r := Q_pack_Packer) (s := Q_pack_kept) (Fld.fst Fld.self) hg K
theorem LA_pack_Packer__kept {h : Heap} {g o : Nat} {a} (hg : At h g o (Rdr.cells Q_pack_Packer a)) (K : Value → Prop) : ldN 3 (.pointer (some ⟨g, o, none⟩)) h K = K (.agg (Rdr.cells Q_pack_kept a.1).toArray) := Fld.ldNA (r := Q_pack_Packer) (s := Q_pack_kept) (Fld.fst Fld.self) hg K
theorem St_pack_Packer__kept {w0 w : World} {As : List Asn} {g : Nat} {t : TypeId} {a} {b} {K : World → Prop} (hs : Sep w0 w (blk g (Rdr.cells Q_pack_Packer a).toArray t :: As)) (h1 : ∀ u ∈ Rdr.cells Q_pack_kept b, u.oneCell' = true) (h : ∀ w', Sep w0 w' (blk g (Rdr.cells Q_pack_Packer (b, a.2)).toArray t :: As) → K w') : stN 3 (.pointer (some ⟨g, 0, none⟩)) (.agg (Rdr.cells Q_pack_kept b).toArray) w K := Fld.stN (r := Q_pack_Packer) (s := Q_pack_kept) (Fld.fst Fld.self) hs h1 h
theorem L_pack_Packer__kept_made {h : Heap} {g : Nat} {t : TypeId} {fr : Nat × Nat} {a} (hg : h[g]? = some (.cells (Rdr.cells Q_pack_Packer a).toArray t fr)) (K : Value → Prop) : ld1 (.pointer (some ⟨g, 0, none⟩)) h K = K (.bool a.1.1) := Fld.ldB (r := Q_pack_Packer) (Fld.fst (Fld.fst Fld.self)) hg K
theorem LA_pack_Packer__kept_made {h : Heap} {g o : Nat} {a} (hg : At h g o (Rdr.cells Q_pack_Packer a)) (K : Value → Prop) : ld1 (.pointer (some ⟨g, o, none⟩)) h K = K (.bool a.1.1) := Fld.ldB' (r := Q_pack_Packer) (Fld.fst (Fld.fst Fld.self)) hg K
theorem St_pack_Packer__kept_made {w0 w : World} {As : List Asn} {g : Nat} {t : TypeId} {a} {b} {K : World → Prop} (hs : Sep w0 w (blk g (Rdr.cells Q_pack_Packer a).toArray t :: As)) (h : ∀ w', Sep w0 w' (blk g (Rdr.cells Q_pack_Packer ((b, a.1.2.1, a.1.2.2), a.2)).toArray t :: As) → K w') : st1 (.pointer (some ⟨g, 0, none⟩)) (.bool b) w K := Fld.stV (r := Q_pack_Packer) (s := rBool) (Fld.fst (Fld.fst Fld.self)) rfl hs rfl h
theorem L_pack_Packer__kept_b {h : Heap} {g : Nat} {t : TypeId} {fr : Nat × Nat} {a} (hg : h[g]? = some (.cells (Rdr.cells Q_pack_Packer a).toArray t fr)) (K : Value → Prop) : ld1 (.pointer (some ⟨g, 1, none⟩)) h K = K (a.1.2.1) := Fld.ld1 (r := Q_pack_Packer) (Fld.fst (Fld.snd (Fld.fst Fld.self))) hg K
theorem LA_pack_Packer__kept_b {h : Heap} {g o : Nat} {a} (hg : At h g o (Rdr.cells Q_pack_Packer a)) (K : Value → Prop) : ld1 (.pointer (some ⟨g, o + 1, none⟩)) h K = K (a.1.2.1) := Fld.ld1A (r := Q_pack_Packer) (Fld.fst (Fld.snd (Fld.fst Fld.self))) hg K
theorem St_pack_Packer__kept_b {w0 w : World} {As : List Asn} {g : Nat} {t : TypeId} {a} {b} {K : World → Prop} (hs : Sep w0 w (blk g (Rdr.cells Q_pack_Packer a).toArray t :: As)) (h1 : b.oneCell' = true) (h : ∀ w', Sep w0 w' (blk g (Rdr.cells Q_pack_Packer ((a.1.1, b, a.1.2.2), a.2)).toArray t :: As) → K w') : st1 (.pointer (some ⟨g, 1, none⟩)) (b) w K := Fld.stV (r := Q_pack_Packer) (s := qv) (Fld.fst (Fld.snd (Fld.fst Fld.self))) rfl hs h1 h
theorem L_pack_Packer__kept_err {h : Heap} {g : Nat} {t : TypeId} {fr : Nat × Nat} {a} (hg : h[g]? = some (.cells (Rdr.cells Q_pack_Packer a).toArray t fr)) (K : Value → Prop) : ld1 (.pointer (some ⟨g, 2, none⟩)) h K = K (.int .i64 a.1.2.2) := Fld.ldI (r := Q_pack_Packer) (Fld.fst (Fld.snd (Fld.snd Fld.self))) hg K
theorem LA_pack_Packer__kept_err {h : Heap} {g o : Nat} {a} (hg : At h g o (Rdr.cells Q_pack_Packer a)) (K : Value → Prop) : ld1 (.pointer (some ⟨g, o + 2, none⟩)) h K = K (.int .i64 a.1.2.2) := Fld.ldI' (r := Q_pack_Packer) (Fld.fst (Fld.snd (Fld.snd Fld.self))) hg K
theorem St_pack_Packer__kept_err {w0 w : World} {As : List Asn} {g : Nat} {t : TypeId} {a} {b} {K : World → Prop} (hs : Sep w0 w (blk g (Rdr.cells Q_pack_Packer a).toArray t :: As)) (h : ∀ w', Sep w0 w' (blk g (Rdr.cells Q_pack_Packer ((a.1.1, a.1.2.1, b), a.2)).toArray t :: As) → K w') : st1 (.pointer (some ⟨g, 2, none⟩)) (.int .i64 b) w K := Fld.stV (r := Q_pack_Packer) (s := (rInt .i64)) (Fld.fst (Fld.snd (Fld.snd Fld.self))) rfl hs rfl h
theorem L_pack_Packer__limit {h : Heap} {g : Nat} {t : TypeId} {fr : Nat × Nat} {a} (hg : h[g]? = some (.cells (Rdr.cells Q_pack_Packer a).toArray t fr)) (K : Value → Prop) : ld1 (.pointer (some ⟨g, 3, none⟩)) h K = K (.int .i64 a.2) := Fld.ldI (r := Q_pack_Packer) (Fld.snd Fld.self) hg K
theorem LA_pack_Packer__limit {h : Heap} {g o : Nat} {a} (hg : At h g o (Rdr.cells Q_pack_Packer a)) (K : Value → Prop) : ld1 (.pointer (some ⟨g, o + 3, none⟩)) h K = K (.int .i64 a.2) := Fld.ldI' (r := Q_pack_Packer) (Fld.snd Fld.self) hg K
theorem St_pack_Packer__limit {w0 w : World} {As : List Asn} {g : Nat} {t : TypeId} {a} {b} {K : World → Prop} (hs : Sep w0 w (blk g (Rdr.cells Q_pack_Packer a).toArray t :: As)) (h : ∀ w', Sep w0 w' (blk g (Rdr.cells Q_pack_Packer (a.1, b)).toArray t :: As) → K w') : st1 (.pointer (some ⟨g, 3, none⟩)) (.int .i64 b) w K := Fld.stV (r := Q_pack_Packer) (s := (rInt .i64)) (Fld.snd Fld.self) rfl hs rfl h
theorem one_pack_Packer {a} (h0 : (a.1.2.1).oneCell' = true) : ∀ u ∈ Rdr.cells Q_pack_Packer a, u.oneCell' = true := (onePair (onePair oneB (onePair (oneV h0) oneI)) oneI)
theorem A_pack_Packer (w : World) : (Instr.alloc T_pack_Packer true (.tuple #[])).run P w = .ok (.pointer (some ⟨w.heap.size, 0, none⟩)) (w.alloc (.cells (Rdr.cells Q_pack_Packer ((false, ((Value.slice none 0 0)), (0 : Int)), (0 : Int))).toArray T_pack_Packer)) := by kernel_rfl
theorem pl_pack_Packer : ((fsOf P T_pack_Packer).toList.mapM fun f : Field => (P.info? f.type).map fun i => (f.offset, i.size)) = some (#[(0, 3), (3, 1)] : Array (Nat × Nat)).toList := by kernel_rfl
theorem z_pack_Packer : ((P.info? T_pack_Packer).bind fun it => it.zero.map fun z => z.cells) = some (Rdr.cells Q_pack_Packer ((false, ((Value.slice none 0 0)), (0 : Int)), (0 : Int))).toArray := by kernel_rfl
abbrev Q_a32_uint8 := rVec 32
theorem A_a32_uint8 (w : World) : (Instr.alloc T_a32_uint8 true (.tuple #[])).run P w = .ok (.pointer (some ⟨w.heap.size, 0, none⟩)) (w.alloc (.cells (Rdr.cells (rVec 32) (vz 32)).toArray T_a32_uint8)) := by kernel_rfl
theorem L_a32_uint8 {h : Heap} {g : Nat} {t : TypeId} {fr : Nat × Nat} {a} (hg : h[g]? = some (.cells (Rdr.cells (rVec 32) a).toArray t fr)) (K : Value → Prop) : ldN 32 (.pointer (some ⟨g, 0, none⟩)) h K = K (.agg (Rdr.cells (rVec 32) a).toArray) := Fld.ldN (r := rVec 32) (s := rVec 32) Fld.self hg K
theorem St_a32_uint8 {w0 w : World} {As : List Asn} {g : Nat} {t : TypeId} {a} {b} {K : World → Prop} (hs : Sep w0 w (blk g (Rdr.cells (rVec 32) a).toArray t :: As)) (h : ∀ w', Sep w0 w' (blk g (Rdr.cells (rVec 32) b).toArray t :: As) → K w') : stN 32 (.pointer (some ⟨g, 0, none⟩)) (.agg (Rdr.cells (rVec 32) b).toArray) w K := Fld.stN (r := rVec 32) (s := rVec 32) Fld.self hs oneVec h
theorem EQ_a32_uint8 : EqT P T_a32_uint8 (rVec 32) true 2 := eqT_vec U_a32_uint8 U_uint8 (by kernel_rfl) (by kernel_rfl)
theorem eq_a32_uint8 {x y : Operand} {w : World} {a b : Vec 32} (K : Value → Prop) : rdP P (eqS .eql T_a32_uint8 x y (.agg (Rdr.cells (rVec 32) a).toArray) (.agg (Rdr.cells (rVec 32) b).toArray)) w K = K (.bool (decide (a = b))) := eqS_agg EQ_a32_uint8 (by decide) (by kernel_rfl) K
theorem ne_a32_uint8 {x y : Operand} {w : World} {a b : Vec 32} (K : Value → Prop) : rdP P (eqS .neq T_a32_uint8 x y (.agg (Rdr.cells (rVec 32) a).toArray) (.agg (Rdr.cells (rVec 32) b).toArray)) w K = K (.bool (!decide (a = b))) := neS_agg EQ_a32_uint8 (by decide) (by kernel_rfl) K
abbrev Q_api_ID := rVec 32
theorem A_api_ID (w : World) : (Instr.alloc T_api_ID true (.tuple #[])).run P w = .ok (.pointer (some ⟨w.heap.size, 0, none⟩)) (w.alloc (.cells (Rdr.cells (rVec 32) (vz 32)).toArray T_api_ID)) := by kernel_rfl
theorem L_api_ID {h : Heap} {g : Nat} {t : TypeId} {fr : Nat × Nat} {a} (hg : h[g]? = some (.cells (Rdr.cells (rVec 32) a).toArray t fr)) (K : Value → Prop) : ldN 32 (.pointer (some ⟨g, 0, none⟩)) h K = K (.agg (Rdr.cells (rVec 32) a).toArray) := Fld.ldN (r := rVec 32) (s := rVec 32) Fld.self hg K
theorem St_api_ID {w0 w : World} {As : List Asn} {g : Nat} {t : TypeId} {a} {b} {K : World → Prop} (hs : Sep w0 w (blk g (Rdr.cells (rVec 32) a).toArray t :: As)) (h : ∀ w', Sep w0 w' (blk g (Rdr.cells (rVec 32) b).toArray t :: As) → K w') : stN 32 (.pointer (some ⟨g, 0, none⟩)) (.agg (Rdr.cells (rVec 32) b).toArray) w K := Fld.stN (r := rVec 32) (s := rVec 32) Fld.self hs oneVec h
theorem EQ_api_ID : EqT P T_api_ID (rVec 32) true 2 := eqT_vec U_api_ID U_uint8 (by kernel_rfl) (by kernel_rfl)
theorem eq_api_ID {x y : Operand} {w : World} {a b : Vec 32} (K : Value → Prop) : rdP P (eqS .eql T_api_ID x y (.agg (Rdr.cells (rVec 32) a).toArray) (.agg (Rdr.cells (rVec 32) b).toArray)) w K = K (.bool (decide (a = b))) := eqS_agg EQ_api_ID (by decide) (by kernel_rfl) K
theorem ne_api_ID {x y : Operand} {w : World} {a b : Vec 32} (K : Value → Prop) : rdP P (eqS .neq T_api_ID x y (.agg (Rdr.cells (rVec 32) a).toArray) (.agg (Rdr.cells (rVec 32) b).toArray)) w K = K (.bool (!decide (a = b))) := neS_agg EQ_api_ID (by decide) (by kernel_rfl) K
theorem B_api_Block  {w : World}  (K : Value → Prop) : rdP P (Instr.build T_api_Block #[]) w K = K (.agg (Rdr.cells Q_api_Block ((vz 32), (0 : Int), ((Value.slice none 0 0)))).toArray) := by
  refine rd_build ?_ K
  refine (built_struct z_api_Block U_api_Block pl_api_Block).trans ?_
  rfl
theorem B_api_Block_1_2 {b1 : Int} {b2 : Value} {w : World} (h2 : b2.oneCell' = true) (K : Value → Prop) : rdP P (Instr.build T_api_Block #[(1, .int .i64 b1), (2, b2)]) w K = K (.agg (Rdr.cells Q_api_Block ((vz 32), b1, b2)).toArray) := by
  refine rd_build ?_ K
  refine (built_struct z_api_Block U_api_Block pl_api_Block).trans ?_
  refine Eq.trans (fill_step (r := Q_api_Block) (s := (rInt .i64)) (Fld.snd (Fld.fst Fld.self)) (a := ((vz 32), (0 : Int), ((Value.slice none 0 0)))) rfl rfl) ?_
  refine Eq.trans (fill_step (r := Q_api_Block) (s := qv) (Fld.snd (Fld.snd Fld.self)) (a := ((vz 32), b1, ((Value.slice none 0 0)))) rfl (cells_one h2)) ?_
  rfl
theorem B_pack_Unpacker  {w : World}  (K : Value → Prop) : rdP P (Instr.build T_pack_Unpacker #[]) w K = K (.agg (Rdr.cells Q_pack_Unpacker ((false, ((Value.slice none 0 0)), (0 : Int)))).toArray) := by
  refine rd_build ?_ K
  refine (built_struct z_pack_Unpacker U_pack_Unpacker pl_pack_Unpacker).trans ?_
  rfl
theorem B_pack_Packer_1 {b1 : Int} {w : World}  (K : Value → Prop) : rdP P (Instr.build T_pack_Packer #[(1, .int .i64 b1)]) w K = K (.agg (Rdr.cells Q_pack_Packer ((false, ((Value.slice none 0 0)), (0 : Int)), b1)).toArray) := by
  refine rd_build ?_ K
  refine (built_struct z_pack_Packer U_pack_Packer pl_pack_Packer).trans ?_
  refine Eq.trans (fill_step (r := Q_pack_Packer) (s := (rInt .i64)) (Fld.snd Fld.self) (a := ((false, ((Value.slice none 0 0)), (0 : Int)), (0 : Int))) rfl rfl) ?_
  rfl
abbrev R_int64 := (rInt .i64)
theorem TR_int64 : Trods P T_int64 R_int64 := trods_int U_int64
theorem O_int64 {H : Type} {enc : TypeId × Value → H} {w : World} {sp : Nat → Bool} {held : Bool} {fuel : Nat} {cs : Array Value} {x : DataW H × List MemPlace} (h : DataW.trod enc P w 0 sp held fuel T_int64 cs.toList = some x) : ∃ a, cs = (Rdr.cells R_int64 a).toArray ∧ Rdr.ok R_int64 w.heap a := by
  obtain ⟨a, e, ok⟩ := TR_int64 H enc w sp held fuel _ x h
  exact ⟨a, by apply Array.ext'; exact e, ok⟩
abbrev R_int := (rInt .i64)
theorem TR_int : Trods P T_int R_int := trods_int U_int
theorem O_int {H : Type} {enc : TypeId × Value → H} {w : World} {sp : Nat → Bool} {held : Bool} {fuel : Nat} {cs : Array Value} {x : DataW H × List MemPlace} (h : DataW.trod enc P w 0 sp held fuel T_int cs.toList = some x) : ∃ a, cs = (Rdr.cells R_int a).toArray ∧ Rdr.ok R_int w.heap a := by
  obtain ⟨a, e, ok⟩ := TR_int H enc w sp held fuel _ x h
  exact ⟨a, by apply Array.ext'; exact e, ok⟩
abbrev R_uint8 := (rNat .u8 256)
theorem TR_uint8 : Trods P T_uint8 R_uint8 := trods_u8 U_uint8
theorem O_uint8 {H : Type} {enc : TypeId × Value → H} {w : World} {sp : Nat → Bool} {held : Bool} {fuel : Nat} {cs : Array Value} {x : DataW H × List MemPlace} (h : DataW.trod enc P w 0 sp held fuel T_uint8 cs.toList = some x) : ∃ a, cs = (Rdr.cells R_uint8 a).toArray ∧ Rdr.ok R_uint8 w.heap a := by
  obtain ⟨a, e, ok⟩ := TR_uint8 H enc w sp held fuel _ x h
  exact ⟨a, by apply Array.ext'; exact e, ok⟩
abbrev R_sl_uint8 := rBytes
theorem TR_sl_uint8 : Trods P T_sl_uint8 R_sl_uint8 := trods_bytes U_sl_uint8 U_uint8 (by kernel_rfl)
theorem O_sl_uint8 {H : Type} {enc : TypeId × Value → H} {w : World} {sp : Nat → Bool} {held : Bool} {fuel : Nat} {v : Value} {x : DataW H × List MemPlace} (h : DataW.trod enc P w 0 sp held fuel T_sl_uint8 [v] = some x) : ∃ l, Rdr.ok R_sl_uint8 w.heap ⟨v, l⟩ := by
  obtain ⟨⟨v', l⟩, e, ok⟩ := TR_sl_uint8 H enc w sp held fuel _ x h
  have ev : v = v' := (List.cons.inj e).1
  subst ev
  exact ⟨l, ok⟩
abbrev R_api_ID := (rVec 32)
theorem TR_api_ID : Trods P T_api_ID R_api_ID := trods_vec U_api_ID U_uint8 (by kernel_rfl) (by kernel_rfl)
theorem O_api_ID {H : Type} {enc : TypeId × Value → H} {w : World} {sp : Nat → Bool} {held : Bool} {fuel : Nat} {cs : Array Value} {x : DataW H × List MemPlace} (h : DataW.trod enc P w 0 sp held fuel T_api_ID cs.toList = some x) : ∃ a, cs = (Rdr.cells R_api_ID a).toArray ∧ Rdr.ok R_api_ID w.heap a := by
  obtain ⟨a, e, ok⟩ := TR_api_ID H enc w sp held fuel _ x h
  exact ⟨a, by apply Array.ext'; exact e, ok⟩
abbrev R_api_Block := (Rdr.pair R_api_ID (Rdr.pair R_int64 R_sl_uint8))
theorem TR_api_Block : Trods P T_api_Block R_api_Block := trods_struct U_api_Block (by kernel_rfl) (trodsF_cons (by kernel_rfl) (by kernel_rfl) TR_api_ID (trodsF_cons (by kernel_rfl) (by kernel_rfl) TR_int64 (trodsF_last (by kernel_rfl) (by kernel_rfl) TR_sl_uint8)))
theorem O_api_Block {H : Type} {enc : TypeId × Value → H} {w : World} {sp : Nat → Bool} {held : Bool} {fuel : Nat} {cs : Array Value} {x : DataW H × List MemPlace} (h : DataW.trod enc P w 0 sp held fuel T_api_Block cs.toList = some x) : ∃ a, cs = (Rdr.cells R_api_Block a).toArray ∧ Rdr.ok R_api_Block w.heap a := by
  obtain ⟨a, e, ok⟩ := TR_api_Block H enc w sp held fuel _ x h
  exact ⟨a, by apply Array.ext'; exact e, ok⟩
abbrev R_sl_api_Block := (rSl R_api_Block)
theorem TR_sl_api_Block : Trods P T_sl_api_Block R_sl_api_Block := trods_sl TR_api_Block U_sl_api_Block (by kernel_rfl) (by decide)
theorem O_sl_api_Block {H : Type} {enc : TypeId × Value → H} {w : World} {sp : Nat → Bool} {held : Bool} {fuel : Nat} {v : Value} {x : DataW H × List MemPlace} (h : DataW.trod enc P w 0 sp held fuel T_sl_api_Block [v] = some x) : ∃ l, Rdr.ok R_sl_api_Block w.heap ⟨v, l⟩ := by
  obtain ⟨⟨v', l⟩, e, ok⟩ := TR_sl_api_Block H enc w sp held fuel _ x h
  have ev : v = v' := (List.cons.inj e).1
  subst ev
  exact ⟨l, ok⟩
abbrev R_uint16 := (rNat .u16 65536)
theorem TR_uint16 : Trods P T_uint16 R_uint16 := trods_u16 U_uint16
theorem O_uint16 {H : Type} {enc : TypeId × Value → H} {w : World} {sp : Nat → Bool} {held : Bool} {fuel : Nat} {cs : Array Value} {x : DataW H × List MemPlace} (h : DataW.trod enc P w 0 sp held fuel T_uint16 cs.toList = some x) : ∃ a, cs = (Rdr.cells R_uint16 a).toArray ∧ Rdr.ok R_uint16 w.heap a := by
  obtain ⟨a, e, ok⟩ := TR_uint16 H enc w sp held fuel _ x h
  exact ⟨a, by apply Array.ext'; exact e, ok⟩
theorem UT_bytes : P.underlying T_sl_uint8 = some (.slice T_uint8) := U_sl_uint8
theorem ST_bytes : SlT P T_sl_uint8 T_uint8 1 1 := S_sl_uint8
theorem ZC_uint8 : zc P T_uint8 = #[.int .u8 0] := by kernel_rfl
theorem UT_uint8 : P.underlying T_uint8 = some (.int .u8) := U_uint8
theorem UT_string : P.underlying T_string = some .string := by kernel_rfl
theorem UT_bool : P.underlying T_bool = some .bool := by kernel_rfl
theorem CO_uint8 : P.cellsOf T_uint8 = 1 := by kernel_rfl
end Go.Fx
