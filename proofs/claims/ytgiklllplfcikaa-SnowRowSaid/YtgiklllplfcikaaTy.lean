/-
  The types of this seat: what each is, how arguments of it are read, how a variable of it is made; printed by program.
-/
import Derived.Test.YtgiklllplfcikaaFxV
import Derived.Test.YtgiklllplfcikaaGen
set_option linter.unusedVariables false
set_option maxRecDepth 100000
namespace Go.Fx
theorem someNe {α : Type} {o : Option α} (h : o.isSome = true) : o ≠ none := by intro h2; rw [h2] at h; cases h
theorem U_int64 : P.underlying T_int64 = some (.int .i64) := by kernel_rfl
theorem Z_int64 : zc P T_int64 = #[(Value.int IntKind.i64 0)] := by kernel_rfl
theorem U_int : P.underlying T_int = some (.int .i64) := by kernel_rfl
theorem Z_int : zc P T_int = #[(Value.int IntKind.i64 0)] := by kernel_rfl
theorem U_bool : P.underlying T_bool = some .bool := by kernel_rfl
theorem Z_bool : zc P T_bool = #[(Value.bool false)] := by kernel_rfl
theorem U_uint8 : P.underlying T_uint8 = some (.int .u8) := by kernel_rfl
theorem Z_uint8 : zc P T_uint8 = #[(Value.int IntKind.u8 0)] := by kernel_rfl
theorem U_string : P.underlying T_string = some .string := by kernel_rfl
theorem U_uintptr : P.underlying T_uintptr = some (.int .u64) := by kernel_rfl
theorem Z_uintptr : zc P T_uintptr = #[(Value.int IntKind.u64 0)] := by kernel_rfl
theorem U_int32 : P.underlying T_int32 = some (.int .i32) := by kernel_rfl
theorem Z_int32 : zc P T_int32 = #[(Value.int IntKind.i32 0)] := by kernel_rfl
theorem U_api_Params : P.underlying T_api_Params = some (.struct (fsOf P T_api_Params)) := by kernel_rfl
theorem Z_api_Params : zc P T_api_Params = #[(Value.int IntKind.i64 0), (Value.int IntKind.i64 0), (Value.int IntKind.i64 0), (Value.int IntKind.i64 0)] := by kernel_rfl
theorem al_api_Params (w : World) : (Instr.alloc T_api_Params true (.tuple #[])).run P w = .ok (.pointer (some ⟨w.heap.size, 0, none⟩)) (w.alloc (.cells #[(Value.int IntKind.i64 0), (Value.int IntKind.i64 0), (Value.int IntKind.i64 0), (Value.int IntKind.i64 0)] T_api_Params)) := by kernel_rfl
theorem U_sl_api_Choice : P.underlying T_sl_api_Choice = some (.slice T_api_Choice) := by kernel_rfl
theorem Z_sl_api_Choice : zc P T_sl_api_Choice = #[(Value.slice none 0 0)] := by kernel_rfl
theorem S_sl_api_Choice : SlT P T_sl_api_Choice T_api_Choice 33 40 := ⟨by kernel_rfl, by kernel_rfl, by kernel_rfl, someNe (by kernel_rfl), by kernel_rfl, by decide⟩
theorem U_a32_uint8 : P.underlying T_a32_uint8 = some (.array 32 T_uint8) := by kernel_rfl
theorem Z_a32_uint8 : zc P T_a32_uint8 = ((List.replicate 32 (Value.int IntKind.u8 0) : List Value).toArray) := by kernel_rfl
theorem al_a32_uint8 (w : World) : (Instr.alloc T_a32_uint8 true (.tuple #[])).run P w = .ok (.pointer (some ⟨w.heap.size, 0, none⟩)) (w.alloc (.cells ((List.replicate 32 (Value.int IntKind.u8 0) : List Value).toArray) T_a32_uint8)) := by kernel_rfl
theorem U_api_ID : P.underlying T_api_ID = some (.array 32 T_uint8) := by kernel_rfl
theorem Z_api_ID : zc P T_api_ID = ((List.replicate 32 (Value.int IntKind.u8 0) : List Value).toArray) := by kernel_rfl
theorem al_api_ID (w : World) : (Instr.alloc T_api_ID true (.tuple #[])).run P w = .ok (.pointer (some ⟨w.heap.size, 0, none⟩)) (w.alloc (.cells ((List.replicate 32 (Value.int IntKind.u8 0) : List Value).toArray) T_api_ID)) := by kernel_rfl
theorem U_api_Snow : P.underlying T_api_Snow = some (.struct (fsOf P T_api_Snow)) := by kernel_rfl
theorem Z_api_Snow : zc P T_api_Snow = (([(Value.slice none 0 0)] ++ List.replicate 64 (Value.int IntKind.u8 0) ++ [(Value.int IntKind.i64 0)] ++ [(Value.bool false)] : List Value).toArray) := by kernel_rfl
theorem al_api_Snow (w : World) : (Instr.alloc T_api_Snow true (.tuple #[])).run P w = .ok (.pointer (some ⟨w.heap.size, 0, none⟩)) (w.alloc (.cells (([(Value.slice none 0 0)] ++ List.replicate 64 (Value.int IntKind.u8 0) ++ [(Value.int IntKind.i64 0)] ++ [(Value.bool false)] : List Value).toArray) T_api_Snow)) := by kernel_rfl
theorem U_sl_api_Vote : P.underlying T_sl_api_Vote = some (.slice T_api_Vote) := by kernel_rfl
theorem Z_sl_api_Vote : zc P T_sl_api_Vote = #[(Value.slice none 0 0)] := by kernel_rfl
theorem S_sl_api_Vote : SlT P T_sl_api_Vote T_api_Vote 33 40 := ⟨by kernel_rfl, by kernel_rfl, by kernel_rfl, someNe (by kernel_rfl), by kernel_rfl, by decide⟩
theorem U_api_Errno : P.underlying T_api_Errno = some (.int .i64) := by kernel_rfl
theorem Z_api_Errno : zc P T_api_Errno = #[(Value.int IntKind.i64 0)] := by kernel_rfl
theorem U_a3_uint8 : P.underlying T_a3_uint8 = some (.array 3 T_uint8) := by kernel_rfl
theorem Z_a3_uint8 : zc P T_a3_uint8 = #[(Value.int IntKind.u8 0), (Value.int IntKind.u8 0), (Value.int IntKind.u8 0)] := by kernel_rfl
theorem al_a3_uint8 (w : World) : (Instr.alloc T_a3_uint8 true (.tuple #[])).run P w = .ok (.pointer (some ⟨w.heap.size, 0, none⟩)) (w.alloc (.cells #[(Value.int IntKind.u8 0), (Value.int IntKind.u8 0), (Value.int IntKind.u8 0)] T_a3_uint8)) := by kernel_rfl
theorem U_sl_api_Snow : P.underlying T_sl_api_Snow = some (.slice T_api_Snow) := by kernel_rfl
theorem Z_sl_api_Snow : zc P T_sl_api_Snow = #[(Value.slice none 0 0)] := by kernel_rfl
theorem S_sl_api_Snow : SlT P T_sl_api_Snow T_api_Snow 67 104 := ⟨by kernel_rfl, by kernel_rfl, by kernel_rfl, someNe (by kernel_rfl), by kernel_rfl, by decide⟩
theorem U_api_Choice : P.underlying T_api_Choice = some (.struct (fsOf P T_api_Choice)) := by kernel_rfl
theorem Z_api_Choice : zc P T_api_Choice = ((List.replicate 32 (Value.int IntKind.u8 0) ++ [(Value.int IntKind.i64 0)] : List Value).toArray) := by kernel_rfl
theorem al_api_Choice (w : World) : (Instr.alloc T_api_Choice true (.tuple #[])).run P w = .ok (.pointer (some ⟨w.heap.size, 0, none⟩)) (w.alloc (.cells ((List.replicate 32 (Value.int IntKind.u8 0) ++ [(Value.int IntKind.i64 0)] : List Value).toArray) T_api_Choice)) := by kernel_rfl
theorem U_sl_flurrylaw17_Act : P.underlying T_sl_flurrylaw17_Act = some (.slice T_flurrylaw17_Act) := by kernel_rfl
theorem Z_sl_flurrylaw17_Act : zc P T_sl_flurrylaw17_Act = #[(Value.slice none 0 0)] := by kernel_rfl
theorem S_sl_flurrylaw17_Act : SlT P T_sl_flurrylaw17_Act T_flurrylaw17_Act 35 56 := ⟨by kernel_rfl, by kernel_rfl, by kernel_rfl, someNe (by kernel_rfl), by kernel_rfl, by decide⟩
theorem U_flurrylaw17_Act : P.underlying T_flurrylaw17_Act = some (.struct (fsOf P T_flurrylaw17_Act)) := by kernel_rfl
theorem Z_flurrylaw17_Act : zc P T_flurrylaw17_Act = (([(Value.int IntKind.u8 0)] ++ [(Value.int IntKind.i64 0)] ++ [(Value.bool false)] ++ List.replicate 32 (Value.int IntKind.u8 0) : List Value).toArray) := by kernel_rfl
theorem al_flurrylaw17_Act (w : World) : (Instr.alloc T_flurrylaw17_Act true (.tuple #[])).run P w = .ok (.pointer (some ⟨w.heap.size, 0, none⟩)) (w.alloc (.cells (([(Value.int IntKind.u8 0)] ++ [(Value.int IntKind.i64 0)] ++ [(Value.bool false)] ++ List.replicate 32 (Value.int IntKind.u8 0) : List Value).toArray) T_flurrylaw17_Act)) := by kernel_rfl
theorem U_api_Vote : P.underlying T_api_Vote = some (.struct (fsOf P T_api_Vote)) := by kernel_rfl
theorem Z_api_Vote : zc P T_api_Vote = ((List.replicate 32 (Value.int IntKind.u8 0) ++ [(Value.int IntKind.i64 0)] : List Value).toArray) := by kernel_rfl
theorem al_api_Vote (w : World) : (Instr.alloc T_api_Vote true (.tuple #[])).run P w = .ok (.pointer (some ⟨w.heap.size, 0, none⟩)) (w.alloc (.cells ((List.replicate 32 (Value.int IntKind.u8 0) ++ [(Value.int IntKind.i64 0)] : List Value).toArray) T_api_Vote)) := by kernel_rfl
theorem U_p_api_Choice : P.underlying T_p_api_Choice = some (.pointer T_api_Choice) := by kernel_rfl
theorem Z_p_api_Choice : zc P T_p_api_Choice = #[(Value.pointer none)] := by kernel_rfl
theorem U_a0_p_runtime_PanicNilError : P.underlying T_a0_p_runtime_PanicNilError = some (.array 0 T_p_runtime_PanicNilError) := by kernel_rfl
theorem Z_a0_p_runtime_PanicNilError : zc P T_a0_p_runtime_PanicNilError = #[] := by kernel_rfl
theorem al_a0_p_runtime_PanicNilError (w : World) : (Instr.alloc T_a0_p_runtime_PanicNilError true (.tuple #[])).run P w = .ok (.pointer (some ⟨w.heap.size, 0, none⟩)) (w.alloc (.cells #[] T_a0_p_runtime_PanicNilError)) := by kernel_rfl
theorem U_uint32 : P.underlying T_uint32 = some (.int .u32) := by kernel_rfl
theorem Z_uint32 : zc P T_uint32 = #[(Value.int IntKind.u32 0)] := by kernel_rfl
theorem U_p_uint8 : P.underlying T_p_uint8 = some (.pointer T_uint8) := by kernel_rfl
theorem Z_p_uint8 : zc P T_p_uint8 = #[(Value.pointer none)] := by kernel_rfl
abbrev Q_api_Params := (Rdr.pair (rInt .i64) (Rdr.pair (rInt .i64) (Rdr.pair (rInt .i64) (rInt .i64))))
theorem L_api_Params {h : Heap} {g : Nat} {t : TypeId} {fr : Nat × Nat} {a} (hg : h[g]? = some (.cells (Rdr.cells Q_api_Params a).toArray t fr)) (K : Value → Prop) : ldN 4 (.pointer (some ⟨g, 0, none⟩)) h K = K (.agg (Rdr.cells Q_api_Params a).toArray) := Fld.ldN (r := Q_api_Params) (s := Q_api_Params) Fld.self hg K
theorem LA_api_Params {h : Heap} {g o : Nat} {a} (hg : At h g o (Rdr.cells Q_api_Params a)) (K : Value → Prop) : ldN 4 (.pointer (some ⟨g, o, none⟩)) h K = K (.agg (Rdr.cells Q_api_Params a).toArray) := Fld.ldNA (r := Q_api_Params) (s := Q_api_Params) Fld.self hg K
theorem St_api_Params {w0 w : World} {As : List Asn} {g : Nat} {t : TypeId} {a} {b} {K : World → Prop} (hs : Sep w0 w (blk g (Rdr.cells Q_api_Params a).toArray t :: As)) (h1 : ∀ u ∈ Rdr.cells Q_api_Params b, u.oneCell' = true) (h : ∀ w', Sep w0 w' (blk g (Rdr.cells Q_api_Params b).toArray t :: As) → K w') : stN 4 (.pointer (some ⟨g, 0, none⟩)) (.agg (Rdr.cells Q_api_Params b).toArray) w K := Fld.stN (r := Q_api_Params) (s := Q_api_Params) Fld.self hs h1 h
theorem L_api_Params__K {h : Heap} {g : Nat} {t : TypeId} {fr : Nat × Nat} {a} (hg : h[g]? = some (.cells (Rdr.cells Q_api_Params a).toArray t fr)) (K : Value → Prop) : ld1 (.pointer (some ⟨g, 0, none⟩)) h K = K (.int .i64 a.1) := Fld.ldI (r := Q_api_Params) (Fld.fst Fld.self) hg K
theorem LA_api_Params__K {h : Heap} {g o : Nat} {a} (hg : At h g o (Rdr.cells Q_api_Params a)) (K : Value → Prop) : ld1 (.pointer (some ⟨g, o, none⟩)) h K = K (.int .i64 a.1) := Fld.ldI' (r := Q_api_Params) (Fld.fst Fld.self) hg K
theorem St_api_Params__K {w0 w : World} {As : List Asn} {g : Nat} {t : TypeId} {a} {b} {K : World → Prop} (hs : Sep w0 w (blk g (Rdr.cells Q_api_Params a).toArray t :: As)) (h : ∀ w', Sep w0 w' (blk g (Rdr.cells Q_api_Params (b, a.2.1, a.2.2.1, a.2.2.2)).toArray t :: As) → K w') : st1 (.pointer (some ⟨g, 0, none⟩)) (.int .i64 b) w K := Fld.stV (r := Q_api_Params) (s := (rInt .i64)) (Fld.fst Fld.self) rfl hs rfl h
theorem L_api_Params__AlphaPref {h : Heap} {g : Nat} {t : TypeId} {fr : Nat × Nat} {a} (hg : h[g]? = some (.cells (Rdr.cells Q_api_Params a).toArray t fr)) (K : Value → Prop) : ld1 (.pointer (some ⟨g, 1, none⟩)) h K = K (.int .i64 a.2.1) := Fld.ldI (r := Q_api_Params) (Fld.snd (Fld.fst Fld.self)) hg K
theorem LA_api_Params__AlphaPref {h : Heap} {g o : Nat} {a} (hg : At h g o (Rdr.cells Q_api_Params a)) (K : Value → Prop) : ld1 (.pointer (some ⟨g, o + 1, none⟩)) h K = K (.int .i64 a.2.1) := Fld.ldI' (r := Q_api_Params) (Fld.snd (Fld.fst Fld.self)) hg K
theorem St_api_Params__AlphaPref {w0 w : World} {As : List Asn} {g : Nat} {t : TypeId} {a} {b} {K : World → Prop} (hs : Sep w0 w (blk g (Rdr.cells Q_api_Params a).toArray t :: As)) (h : ∀ w', Sep w0 w' (blk g (Rdr.cells Q_api_Params (a.1, b, a.2.2.1, a.2.2.2)).toArray t :: As) → K w') : st1 (.pointer (some ⟨g, 1, none⟩)) (.int .i64 b) w K := Fld.stV (r := Q_api_Params) (s := (rInt .i64)) (Fld.snd (Fld.fst Fld.self)) rfl hs rfl h
theorem L_api_Params__AlphaConf {h : Heap} {g : Nat} {t : TypeId} {fr : Nat × Nat} {a} (hg : h[g]? = some (.cells (Rdr.cells Q_api_Params a).toArray t fr)) (K : Value → Prop) : ld1 (.pointer (some ⟨g, 2, none⟩)) h K = K (.int .i64 a.2.2.1) := Fld.ldI (r := Q_api_Params) (Fld.snd (Fld.snd (Fld.fst Fld.self))) hg K
theorem LA_api_Params__AlphaConf {h : Heap} {g o : Nat} {a} (hg : At h g o (Rdr.cells Q_api_Params a)) (K : Value → Prop) : ld1 (.pointer (some ⟨g, o + 2, none⟩)) h K = K (.int .i64 a.2.2.1) := Fld.ldI' (r := Q_api_Params) (Fld.snd (Fld.snd (Fld.fst Fld.self))) hg K
theorem St_api_Params__AlphaConf {w0 w : World} {As : List Asn} {g : Nat} {t : TypeId} {a} {b} {K : World → Prop} (hs : Sep w0 w (blk g (Rdr.cells Q_api_Params a).toArray t :: As)) (h : ∀ w', Sep w0 w' (blk g (Rdr.cells Q_api_Params (a.1, a.2.1, b, a.2.2.2)).toArray t :: As) → K w') : st1 (.pointer (some ⟨g, 2, none⟩)) (.int .i64 b) w K := Fld.stV (r := Q_api_Params) (s := (rInt .i64)) (Fld.snd (Fld.snd (Fld.fst Fld.self))) rfl hs rfl h
theorem L_api_Params__Beta {h : Heap} {g : Nat} {t : TypeId} {fr : Nat × Nat} {a} (hg : h[g]? = some (.cells (Rdr.cells Q_api_Params a).toArray t fr)) (K : Value → Prop) : ld1 (.pointer (some ⟨g, 3, none⟩)) h K = K (.int .i64 a.2.2.2) := Fld.ldI (r := Q_api_Params) (Fld.snd (Fld.snd (Fld.snd Fld.self))) hg K
theorem LA_api_Params__Beta {h : Heap} {g o : Nat} {a} (hg : At h g o (Rdr.cells Q_api_Params a)) (K : Value → Prop) : ld1 (.pointer (some ⟨g, o + 3, none⟩)) h K = K (.int .i64 a.2.2.2) := Fld.ldI' (r := Q_api_Params) (Fld.snd (Fld.snd (Fld.snd Fld.self))) hg K
theorem St_api_Params__Beta {w0 w : World} {As : List Asn} {g : Nat} {t : TypeId} {a} {b} {K : World → Prop} (hs : Sep w0 w (blk g (Rdr.cells Q_api_Params a).toArray t :: As)) (h : ∀ w', Sep w0 w' (blk g (Rdr.cells Q_api_Params (a.1, a.2.1, a.2.2.1, b)).toArray t :: As) → K w') : st1 (.pointer (some ⟨g, 3, none⟩)) (.int .i64 b) w K := Fld.stV (r := Q_api_Params) (s := (rInt .i64)) (Fld.snd (Fld.snd (Fld.snd Fld.self))) rfl hs rfl h
theorem one_api_Params {a}  : ∀ u ∈ Rdr.cells Q_api_Params a, u.oneCell' = true := (onePair oneI (onePair oneI (onePair oneI oneI)))
theorem A_api_Params (w : World) : (Instr.alloc T_api_Params true (.tuple #[])).run P w = .ok (.pointer (some ⟨w.heap.size, 0, none⟩)) (w.alloc (.cells (Rdr.cells Q_api_Params ((0 : Int), (0 : Int), (0 : Int), (0 : Int))).toArray T_api_Params)) := by kernel_rfl
theorem pl_api_Params : ((fsOf P T_api_Params).toList.mapM fun f : Field => (P.info? f.type).map fun i => (f.offset, i.size)) = some (#[(0, 1), (1, 1), (2, 1), (3, 1)] : Array (Nat × Nat)).toList := by kernel_rfl
theorem z_api_Params : ((P.info? T_api_Params).bind fun it => it.zero.map fun z => z.cells) = some (Rdr.cells Q_api_Params ((0 : Int), (0 : Int), (0 : Int), (0 : Int))).toArray := by kernel_rfl
abbrev Q_api_Snow := (Rdr.pair qv (Rdr.pair (rVec 32) (Rdr.pair (rVec 32) (Rdr.pair (rInt .i64) rBool))))
theorem L_api_Snow {h : Heap} {g : Nat} {t : TypeId} {fr : Nat × Nat} {a} (hg : h[g]? = some (.cells (Rdr.cells Q_api_Snow a).toArray t fr)) (K : Value → Prop) : ldN 67 (.pointer (some ⟨g, 0, none⟩)) h K = K (.agg (Rdr.cells Q_api_Snow a).toArray) := Fld.ldN (r := Q_api_Snow) (s := Q_api_Snow) Fld.self hg K
theorem LA_api_Snow {h : Heap} {g o : Nat} {a} (hg : At h g o (Rdr.cells Q_api_Snow a)) (K : Value → Prop) : ldN 67 (.pointer (some ⟨g, o, none⟩)) h K = K (.agg (Rdr.cells Q_api_Snow a).toArray) := Fld.ldNA (r := Q_api_Snow) (s := Q_api_Snow) Fld.self hg K
theorem St_api_Snow {w0 w : World} {As : List Asn} {g : Nat} {t : TypeId} {a} {b} {K : World → Prop} (hs : Sep w0 w (blk g (Rdr.cells Q_api_Snow a).toArray t :: As)) (h1 : ∀ u ∈ Rdr.cells Q_api_Snow b, u.oneCell' = true) (h : ∀ w', Sep w0 w' (blk g (Rdr.cells Q_api_Snow b).toArray t :: As) → K w') : stN 67 (.pointer (some ⟨g, 0, none⟩)) (.agg (Rdr.cells Q_api_Snow b).toArray) w K := Fld.stN (r := Q_api_Snow) (s := Q_api_Snow) Fld.self hs h1 h
theorem L_api_Snow__List {h : Heap} {g : Nat} {t : TypeId} {fr : Nat × Nat} {a} (hg : h[g]? = some (.cells (Rdr.cells Q_api_Snow a).toArray t fr)) (K : Value → Prop) : ld1 (.pointer (some ⟨g, 0, none⟩)) h K = K (a.1) := Fld.ld1 (r := Q_api_Snow) (Fld.fst Fld.self) hg K
theorem LA_api_Snow__List {h : Heap} {g o : Nat} {a} (hg : At h g o (Rdr.cells Q_api_Snow a)) (K : Value → Prop) : ld1 (.pointer (some ⟨g, o, none⟩)) h K = K (a.1) := Fld.ld1A (r := Q_api_Snow) (Fld.fst Fld.self) hg K
theorem St_api_Snow__List {w0 w : World} {As : List Asn} {g : Nat} {t : TypeId} {a} {b} {K : World → Prop} (hs : Sep w0 w (blk g (Rdr.cells Q_api_Snow a).toArray t :: As)) (h1 : b.oneCell' = true) (h : ∀ w', Sep w0 w' (blk g (Rdr.cells Q_api_Snow (b, a.2.1, a.2.2.1, a.2.2.2.1, a.2.2.2.2)).toArray t :: As) → K w') : st1 (.pointer (some ⟨g, 0, none⟩)) (b) w K := Fld.stV (r := Q_api_Snow) (s := qv) (Fld.fst Fld.self) rfl hs h1 h
theorem L_api_Snow__Pref {h : Heap} {g : Nat} {t : TypeId} {fr : Nat × Nat} {a} (hg : h[g]? = some (.cells (Rdr.cells Q_api_Snow a).toArray t fr)) (K : Value → Prop) : ldN 32 (.pointer (some ⟨g, 1, none⟩)) h K = K (.agg (Rdr.cells (rVec 32) a.2.1).toArray) := Fld.ldN (r := Q_api_Snow) (s := (rVec 32)) (Fld.snd (Fld.fst Fld.self)) hg K
theorem LA_api_Snow__Pref {h : Heap} {g o : Nat} {a} (hg : At h g o (Rdr.cells Q_api_Snow a)) (K : Value → Prop) : ldN 32 (.pointer (some ⟨g, o + 1, none⟩)) h K = K (.agg (Rdr.cells (rVec 32) a.2.1).toArray) := Fld.ldNA (r := Q_api_Snow) (s := (rVec 32)) (Fld.snd (Fld.fst Fld.self)) hg K
theorem St_api_Snow__Pref {w0 w : World} {As : List Asn} {g : Nat} {t : TypeId} {a} {b} {K : World → Prop} (hs : Sep w0 w (blk g (Rdr.cells Q_api_Snow a).toArray t :: As)) (h1 : ∀ u ∈ Rdr.cells (rVec 32) b, u.oneCell' = true) (h : ∀ w', Sep w0 w' (blk g (Rdr.cells Q_api_Snow (a.1, b, a.2.2.1, a.2.2.2.1, a.2.2.2.2)).toArray t :: As) → K w') : stN 32 (.pointer (some ⟨g, 1, none⟩)) (.agg (Rdr.cells (rVec 32) b).toArray) w K := Fld.stN (r := Q_api_Snow) (s := (rVec 32)) (Fld.snd (Fld.fst Fld.self)) hs h1 h
theorem L_api_Snow__Flake {h : Heap} {g : Nat} {t : TypeId} {fr : Nat × Nat} {a} (hg : h[g]? = some (.cells (Rdr.cells Q_api_Snow a).toArray t fr)) (K : Value → Prop) : ldN 32 (.pointer (some ⟨g, 33, none⟩)) h K = K (.agg (Rdr.cells (rVec 32) a.2.2.1).toArray) := Fld.ldN (r := Q_api_Snow) (s := (rVec 32)) (Fld.snd (Fld.snd (Fld.fst Fld.self))) hg K
theorem LA_api_Snow__Flake {h : Heap} {g o : Nat} {a} (hg : At h g o (Rdr.cells Q_api_Snow a)) (K : Value → Prop) : ldN 32 (.pointer (some ⟨g, o + 33, none⟩)) h K = K (.agg (Rdr.cells (rVec 32) a.2.2.1).toArray) := Fld.ldNA (r := Q_api_Snow) (s := (rVec 32)) (Fld.snd (Fld.snd (Fld.fst Fld.self))) hg K
theorem St_api_Snow__Flake {w0 w : World} {As : List Asn} {g : Nat} {t : TypeId} {a} {b} {K : World → Prop} (hs : Sep w0 w (blk g (Rdr.cells Q_api_Snow a).toArray t :: As)) (h1 : ∀ u ∈ Rdr.cells (rVec 32) b, u.oneCell' = true) (h : ∀ w', Sep w0 w' (blk g (Rdr.cells Q_api_Snow (a.1, a.2.1, b, a.2.2.2.1, a.2.2.2.2)).toArray t :: As) → K w') : stN 32 (.pointer (some ⟨g, 33, none⟩)) (.agg (Rdr.cells (rVec 32) b).toArray) w K := Fld.stN (r := Q_api_Snow) (s := (rVec 32)) (Fld.snd (Fld.snd (Fld.fst Fld.self))) hs h1 h
theorem L_api_Snow__Conf {h : Heap} {g : Nat} {t : TypeId} {fr : Nat × Nat} {a} (hg : h[g]? = some (.cells (Rdr.cells Q_api_Snow a).toArray t fr)) (K : Value → Prop) : ld1 (.pointer (some ⟨g, 65, none⟩)) h K = K (.int .i64 a.2.2.2.1) := Fld.ldI (r := Q_api_Snow) (Fld.snd (Fld.snd (Fld.snd (Fld.fst Fld.self)))) hg K
theorem LA_api_Snow__Conf {h : Heap} {g o : Nat} {a} (hg : At h g o (Rdr.cells Q_api_Snow a)) (K : Value → Prop) : ld1 (.pointer (some ⟨g, o + 65, none⟩)) h K = K (.int .i64 a.2.2.2.1) := Fld.ldI' (r := Q_api_Snow) (Fld.snd (Fld.snd (Fld.snd (Fld.fst Fld.self)))) hg K
theorem St_api_Snow__Conf {w0 w : World} {As : List Asn} {g : Nat} {t : TypeId} {a} {b} {K : World → Prop} (hs : Sep w0 w (blk g (Rdr.cells Q_api_Snow a).toArray t :: As)) (h : ∀ w', Sep w0 w' (blk g (Rdr.cells Q_api_Snow (a.1, a.2.1, a.2.2.1, b, a.2.2.2.2)).toArray t :: As) → K w') : st1 (.pointer (some ⟨g, 65, none⟩)) (.int .i64 b) w K := Fld.stV (r := Q_api_Snow) (s := (rInt .i64)) (Fld.snd (Fld.snd (Fld.snd (Fld.fst Fld.self)))) rfl hs rfl h
theorem L_api_Snow__Done {h : Heap} {g : Nat} {t : TypeId} {fr : Nat × Nat} {a} (hg : h[g]? = some (.cells (Rdr.cells Q_api_Snow a).toArray t fr)) (K : Value → Prop) : ld1 (.pointer (some ⟨g, 66, none⟩)) h K = K (.bool a.2.2.2.2) := Fld.ldB (r := Q_api_Snow) (Fld.snd (Fld.snd (Fld.snd (Fld.snd Fld.self)))) hg K
theorem LA_api_Snow__Done {h : Heap} {g o : Nat} {a} (hg : At h g o (Rdr.cells Q_api_Snow a)) (K : Value → Prop) : ld1 (.pointer (some ⟨g, o + 66, none⟩)) h K = K (.bool a.2.2.2.2) := Fld.ldB' (r := Q_api_Snow) (Fld.snd (Fld.snd (Fld.snd (Fld.snd Fld.self)))) hg K
theorem St_api_Snow__Done {w0 w : World} {As : List Asn} {g : Nat} {t : TypeId} {a} {b} {K : World → Prop} (hs : Sep w0 w (blk g (Rdr.cells Q_api_Snow a).toArray t :: As)) (h : ∀ w', Sep w0 w' (blk g (Rdr.cells Q_api_Snow (a.1, a.2.1, a.2.2.1, a.2.2.2.1, b)).toArray t :: As) → K w') : st1 (.pointer (some ⟨g, 66, none⟩)) (.bool b) w K := Fld.stV (r := Q_api_Snow) (s := rBool) (Fld.snd (Fld.snd (Fld.snd (Fld.snd Fld.self)))) rfl hs rfl h
theorem one_api_Snow {a} (h0 : (a.1).oneCell' = true) : ∀ u ∈ Rdr.cells Q_api_Snow a, u.oneCell' = true := (onePair (oneV h0) (onePair oneVec (onePair oneVec (onePair oneI oneB))))
theorem A_api_Snow (w : World) : (Instr.alloc T_api_Snow true (.tuple #[])).run P w = .ok (.pointer (some ⟨w.heap.size, 0, none⟩)) (w.alloc (.cells (Rdr.cells Q_api_Snow (((Value.slice none 0 0)), (vz 32), (vz 32), (0 : Int), false)).toArray T_api_Snow)) := by kernel_rfl
theorem pl_api_Snow : ((fsOf P T_api_Snow).toList.mapM fun f : Field => (P.info? f.type).map fun i => (f.offset, i.size)) = some (#[(0, 1), (1, 32), (33, 32), (65, 1), (66, 1)] : Array (Nat × Nat)).toList := by kernel_rfl
theorem z_api_Snow : ((P.info? T_api_Snow).bind fun it => it.zero.map fun z => z.cells) = some (Rdr.cells Q_api_Snow (((Value.slice none 0 0)), (vz 32), (vz 32), (0 : Int), false)).toArray := by kernel_rfl
abbrev Q_api_Choice := (Rdr.pair (rVec 32) (rInt .i64))
theorem L_api_Choice {h : Heap} {g : Nat} {t : TypeId} {fr : Nat × Nat} {a} (hg : h[g]? = some (.cells (Rdr.cells Q_api_Choice a).toArray t fr)) (K : Value → Prop) : ldN 33 (.pointer (some ⟨g, 0, none⟩)) h K = K (.agg (Rdr.cells Q_api_Choice a).toArray) := Fld.ldN (r := Q_api_Choice) (s := Q_api_Choice) Fld.self hg K
theorem LA_api_Choice {h : Heap} {g o : Nat} {a} (hg : At h g o (Rdr.cells Q_api_Choice a)) (K : Value → Prop) : ldN 33 (.pointer (some ⟨g, o, none⟩)) h K = K (.agg (Rdr.cells Q_api_Choice a).toArray) := Fld.ldNA (r := Q_api_Choice) (s := Q_api_Choice) Fld.self hg K
theorem St_api_Choice {w0 w : World} {As : List Asn} {g : Nat} {t : TypeId} {a} {b} {K : World → Prop} (hs : Sep w0 w (blk g (Rdr.cells Q_api_Choice a).toArray t :: As)) (h1 : ∀ u ∈ Rdr.cells Q_api_Choice b, u.oneCell' = true) (h : ∀ w', Sep w0 w' (blk g (Rdr.cells Q_api_Choice b).toArray t :: As) → K w') : stN 33 (.pointer (some ⟨g, 0, none⟩)) (.agg (Rdr.cells Q_api_Choice b).toArray) w K := Fld.stN (r := Q_api_Choice) (s := Q_api_Choice) Fld.self hs h1 h
theorem L_api_Choice__ID {h : Heap} {g : Nat} {t : TypeId} {fr : Nat × Nat} {a} (hg : h[g]? = some (.cells (Rdr.cells Q_api_Choice a).toArray t fr)) (K : Value → Prop) : ldN 32 (.pointer (some ⟨g, 0, none⟩)) h K = K (.agg (Rdr.cells (rVec 32) a.1).toArray) := Fld.ldN (r := Q_api_Choice) (s := (rVec 32)) (Fld.fst Fld.self) hg K
theorem LA_api_Choice__ID {h : Heap} {g o : Nat} {a} (hg : At h g o (Rdr.cells Q_api_Choice a)) (K : Value → Prop) : ldN 32 (.pointer (some ⟨g, o, none⟩)) h K = K (.agg (Rdr.cells (rVec 32) a.1).toArray) := Fld.ldNA (r := Q_api_Choice) (s := (rVec 32)) (Fld.fst Fld.self) hg K
theorem St_api_Choice__ID {w0 w : World} {As : List Asn} {g : Nat} {t : TypeId} {a} {b} {K : World → Prop} (hs : Sep w0 w (blk g (Rdr.cells Q_api_Choice a).toArray t :: As)) (h1 : ∀ u ∈ Rdr.cells (rVec 32) b, u.oneCell' = true) (h : ∀ w', Sep w0 w' (blk g (Rdr.cells Q_api_Choice (b, a.2)).toArray t :: As) → K w') : stN 32 (.pointer (some ⟨g, 0, none⟩)) (.agg (Rdr.cells (rVec 32) b).toArray) w K := Fld.stN (r := Q_api_Choice) (s := (rVec 32)) (Fld.fst Fld.self) hs h1 h
theorem L_api_Choice__Strength {h : Heap} {g : Nat} {t : TypeId} {fr : Nat × Nat} {a} (hg : h[g]? = some (.cells (Rdr.cells Q_api_Choice a).toArray t fr)) (K : Value → Prop) : ld1 (.pointer (some ⟨g, 32, none⟩)) h K = K (.int .i64 a.2) := Fld.ldI (r := Q_api_Choice) (Fld.snd Fld.self) hg K
theorem LA_api_Choice__Strength {h : Heap} {g o : Nat} {a} (hg : At h g o (Rdr.cells Q_api_Choice a)) (K : Value → Prop) : ld1 (.pointer (some ⟨g, o + 32, none⟩)) h K = K (.int .i64 a.2) := Fld.ldI' (r := Q_api_Choice) (Fld.snd Fld.self) hg K
theorem St_api_Choice__Strength {w0 w : World} {As : List Asn} {g : Nat} {t : TypeId} {a} {b} {K : World → Prop} (hs : Sep w0 w (blk g (Rdr.cells Q_api_Choice a).toArray t :: As)) (h : ∀ w', Sep w0 w' (blk g (Rdr.cells Q_api_Choice (a.1, b)).toArray t :: As) → K w') : st1 (.pointer (some ⟨g, 32, none⟩)) (.int .i64 b) w K := Fld.stV (r := Q_api_Choice) (s := (rInt .i64)) (Fld.snd Fld.self) rfl hs rfl h
theorem one_api_Choice {a}  : ∀ u ∈ Rdr.cells Q_api_Choice a, u.oneCell' = true := (onePair oneVec oneI)
theorem A_api_Choice (w : World) : (Instr.alloc T_api_Choice true (.tuple #[])).run P w = .ok (.pointer (some ⟨w.heap.size, 0, none⟩)) (w.alloc (.cells (Rdr.cells Q_api_Choice ((vz 32), (0 : Int))).toArray T_api_Choice)) := by kernel_rfl
theorem pl_api_Choice : ((fsOf P T_api_Choice).toList.mapM fun f : Field => (P.info? f.type).map fun i => (f.offset, i.size)) = some (#[(0, 32), (32, 1)] : Array (Nat × Nat)).toList := by kernel_rfl
theorem z_api_Choice : ((P.info? T_api_Choice).bind fun it => it.zero.map fun z => z.cells) = some (Rdr.cells Q_api_Choice ((vz 32), (0 : Int))).toArray := by kernel_rfl
abbrev Q_flurrylaw17_Act := (Rdr.pair (rInt .u8) (Rdr.pair (rInt .i64) (Rdr.pair rBool (rVec 32))))
theorem L_flurrylaw17_Act {h : Heap} {g : Nat} {t : TypeId} {fr : Nat × Nat} {a} (hg : h[g]? = some (.cells (Rdr.cells Q_flurrylaw17_Act a).toArray t fr)) (K : Value → Prop) : ldN 35 (.pointer (some ⟨g, 0, none⟩)) h K = K (.agg (Rdr.cells Q_flurrylaw17_Act a).toArray) := Fld.ldN (r := Q_flurrylaw17_Act) (s := Q_flurrylaw17_Act) Fld.self hg K
theorem LA_flurrylaw17_Act {h : Heap} {g o : Nat} {a} (hg : At h g o (Rdr.cells Q_flurrylaw17_Act a)) (K : Value → Prop) : ldN 35 (.pointer (some ⟨g, o, none⟩)) h K = K (.agg (Rdr.cells Q_flurrylaw17_Act a).toArray) := Fld.ldNA (r := Q_flurrylaw17_Act) (s := Q_flurrylaw17_Act) Fld.self hg K
theorem St_flurrylaw17_Act {w0 w : World} {As : List Asn} {g : Nat} {t : TypeId} {a} {b} {K : World → Prop} (hs : Sep w0 w (blk g (Rdr.cells Q_flurrylaw17_Act a).toArray t :: As)) (h1 : ∀ u ∈ Rdr.cells Q_flurrylaw17_Act b, u.oneCell' = true) (h : ∀ w', Sep w0 w' (blk g (Rdr.cells Q_flurrylaw17_Act b).toArray t :: As) → K w') : stN 35 (.pointer (some ⟨g, 0, none⟩)) (.agg (Rdr.cells Q_flurrylaw17_Act b).toArray) w K := Fld.stN (r := Q_flurrylaw17_Act) (s := Q_flurrylaw17_Act) Fld.self hs h1 h
theorem L_flurrylaw17_Act__K {h : Heap} {g : Nat} {t : TypeId} {fr : Nat × Nat} {a} (hg : h[g]? = some (.cells (Rdr.cells Q_flurrylaw17_Act a).toArray t fr)) (K : Value → Prop) : ld1 (.pointer (some ⟨g, 0, none⟩)) h K = K (.int .u8 a.1) := Fld.ldI (r := Q_flurrylaw17_Act) (Fld.fst Fld.self) hg K
theorem LA_flurrylaw17_Act__K {h : Heap} {g o : Nat} {a} (hg : At h g o (Rdr.cells Q_flurrylaw17_Act a)) (K : Value → Prop) : ld1 (.pointer (some ⟨g, o, none⟩)) h K = K (.int .u8 a.1) := Fld.ldI' (r := Q_flurrylaw17_Act) (Fld.fst Fld.self) hg K
theorem St_flurrylaw17_Act__K {w0 w : World} {As : List Asn} {g : Nat} {t : TypeId} {a} {b} {K : World → Prop} (hs : Sep w0 w (blk g (Rdr.cells Q_flurrylaw17_Act a).toArray t :: As)) (h : ∀ w', Sep w0 w' (blk g (Rdr.cells Q_flurrylaw17_Act (b, a.2.1, a.2.2.1, a.2.2.2)).toArray t :: As) → K w') : st1 (.pointer (some ⟨g, 0, none⟩)) (.int .u8 b) w K := Fld.stV (r := Q_flurrylaw17_Act) (s := (rInt .u8)) (Fld.fst Fld.self) rfl hs rfl h
theorem L_flurrylaw17_Act__N {h : Heap} {g : Nat} {t : TypeId} {fr : Nat × Nat} {a} (hg : h[g]? = some (.cells (Rdr.cells Q_flurrylaw17_Act a).toArray t fr)) (K : Value → Prop) : ld1 (.pointer (some ⟨g, 1, none⟩)) h K = K (.int .i64 a.2.1) := Fld.ldI (r := Q_flurrylaw17_Act) (Fld.snd (Fld.fst Fld.self)) hg K
theorem LA_flurrylaw17_Act__N {h : Heap} {g o : Nat} {a} (hg : At h g o (Rdr.cells Q_flurrylaw17_Act a)) (K : Value → Prop) : ld1 (.pointer (some ⟨g, o + 1, none⟩)) h K = K (.int .i64 a.2.1) := Fld.ldI' (r := Q_flurrylaw17_Act) (Fld.snd (Fld.fst Fld.self)) hg K
theorem St_flurrylaw17_Act__N {w0 w : World} {As : List Asn} {g : Nat} {t : TypeId} {a} {b} {K : World → Prop} (hs : Sep w0 w (blk g (Rdr.cells Q_flurrylaw17_Act a).toArray t :: As)) (h : ∀ w', Sep w0 w' (blk g (Rdr.cells Q_flurrylaw17_Act (a.1, b, a.2.2.1, a.2.2.2)).toArray t :: As) → K w') : st1 (.pointer (some ⟨g, 1, none⟩)) (.int .i64 b) w K := Fld.stV (r := Q_flurrylaw17_Act) (s := (rInt .i64)) (Fld.snd (Fld.fst Fld.self)) rfl hs rfl h
theorem L_flurrylaw17_Act__Add {h : Heap} {g : Nat} {t : TypeId} {fr : Nat × Nat} {a} (hg : h[g]? = some (.cells (Rdr.cells Q_flurrylaw17_Act a).toArray t fr)) (K : Value → Prop) : ld1 (.pointer (some ⟨g, 2, none⟩)) h K = K (.bool a.2.2.1) := Fld.ldB (r := Q_flurrylaw17_Act) (Fld.snd (Fld.snd (Fld.fst Fld.self))) hg K
theorem LA_flurrylaw17_Act__Add {h : Heap} {g o : Nat} {a} (hg : At h g o (Rdr.cells Q_flurrylaw17_Act a)) (K : Value → Prop) : ld1 (.pointer (some ⟨g, o + 2, none⟩)) h K = K (.bool a.2.2.1) := Fld.ldB' (r := Q_flurrylaw17_Act) (Fld.snd (Fld.snd (Fld.fst Fld.self))) hg K
theorem St_flurrylaw17_Act__Add {w0 w : World} {As : List Asn} {g : Nat} {t : TypeId} {a} {b} {K : World → Prop} (hs : Sep w0 w (blk g (Rdr.cells Q_flurrylaw17_Act a).toArray t :: As)) (h : ∀ w', Sep w0 w' (blk g (Rdr.cells Q_flurrylaw17_Act (a.1, a.2.1, b, a.2.2.2)).toArray t :: As) → K w') : st1 (.pointer (some ⟨g, 2, none⟩)) (.bool b) w K := Fld.stV (r := Q_flurrylaw17_Act) (s := rBool) (Fld.snd (Fld.snd (Fld.fst Fld.self))) rfl hs rfl h
theorem L_flurrylaw17_Act__ID {h : Heap} {g : Nat} {t : TypeId} {fr : Nat × Nat} {a} (hg : h[g]? = some (.cells (Rdr.cells Q_flurrylaw17_Act a).toArray t fr)) (K : Value → Prop) : ldN 32 (.pointer (some ⟨g, 3, none⟩)) h K = K (.agg (Rdr.cells (rVec 32) a.2.2.2).toArray) := Fld.ldN (r := Q_flurrylaw17_Act) (s := (rVec 32)) (Fld.snd (Fld.snd (Fld.snd Fld.self))) hg K
theorem LA_flurrylaw17_Act__ID {h : Heap} {g o : Nat} {a} (hg : At h g o (Rdr.cells Q_flurrylaw17_Act a)) (K : Value → Prop) : ldN 32 (.pointer (some ⟨g, o + 3, none⟩)) h K = K (.agg (Rdr.cells (rVec 32) a.2.2.2).toArray) := Fld.ldNA (r := Q_flurrylaw17_Act) (s := (rVec 32)) (Fld.snd (Fld.snd (Fld.snd Fld.self))) hg K
theorem St_flurrylaw17_Act__ID {w0 w : World} {As : List Asn} {g : Nat} {t : TypeId} {a} {b} {K : World → Prop} (hs : Sep w0 w (blk g (Rdr.cells Q_flurrylaw17_Act a).toArray t :: As)) (h1 : ∀ u ∈ Rdr.cells (rVec 32) b, u.oneCell' = true) (h : ∀ w', Sep w0 w' (blk g (Rdr.cells Q_flurrylaw17_Act (a.1, a.2.1, a.2.2.1, b)).toArray t :: As) → K w') : stN 32 (.pointer (some ⟨g, 3, none⟩)) (.agg (Rdr.cells (rVec 32) b).toArray) w K := Fld.stN (r := Q_flurrylaw17_Act) (s := (rVec 32)) (Fld.snd (Fld.snd (Fld.snd Fld.self))) hs h1 h
theorem one_flurrylaw17_Act {a}  : ∀ u ∈ Rdr.cells Q_flurrylaw17_Act a, u.oneCell' = true := (onePair oneI (onePair oneI (onePair oneB oneVec)))
theorem A_flurrylaw17_Act (w : World) : (Instr.alloc T_flurrylaw17_Act true (.tuple #[])).run P w = .ok (.pointer (some ⟨w.heap.size, 0, none⟩)) (w.alloc (.cells (Rdr.cells Q_flurrylaw17_Act ((0 : Int), (0 : Int), false, (vz 32))).toArray T_flurrylaw17_Act)) := by kernel_rfl
theorem pl_flurrylaw17_Act : ((fsOf P T_flurrylaw17_Act).toList.mapM fun f : Field => (P.info? f.type).map fun i => (f.offset, i.size)) = some (#[(0, 1), (1, 1), (2, 1), (3, 32)] : Array (Nat × Nat)).toList := by kernel_rfl
theorem z_flurrylaw17_Act : ((P.info? T_flurrylaw17_Act).bind fun it => it.zero.map fun z => z.cells) = some (Rdr.cells Q_flurrylaw17_Act ((0 : Int), (0 : Int), false, (vz 32))).toArray := by kernel_rfl
abbrev Q_api_Vote := (Rdr.pair (rVec 32) (rInt .i64))
theorem L_api_Vote {h : Heap} {g : Nat} {t : TypeId} {fr : Nat × Nat} {a} (hg : h[g]? = some (.cells (Rdr.cells Q_api_Vote a).toArray t fr)) (K : Value → Prop) : ldN 33 (.pointer (some ⟨g, 0, none⟩)) h K = K (.agg (Rdr.cells Q_api_Vote a).toArray) := Fld.ldN (r := Q_api_Vote) (s := Q_api_Vote) Fld.self hg K
theorem LA_api_Vote {h : Heap} {g o : Nat} {a} (hg : At h g o (Rdr.cells Q_api_Vote a)) (K : Value → Prop) : ldN 33 (.pointer (some ⟨g, o, none⟩)) h K = K (.agg (Rdr.cells Q_api_Vote a).toArray) := Fld.ldNA (r := Q_api_Vote) (s := Q_api_Vote) Fld.self hg K
theorem St_api_Vote {w0 w : World} {As : List Asn} {g : Nat} {t : TypeId} {a} {b} {K : World → Prop} (hs : Sep w0 w (blk g (Rdr.cells Q_api_Vote a).toArray t :: As)) (h1 : ∀ u ∈ Rdr.cells Q_api_Vote b, u.oneCell' = true) (h : ∀ w', Sep w0 w' (blk g (Rdr.cells Q_api_Vote b).toArray t :: As) → K w') : stN 33 (.pointer (some ⟨g, 0, none⟩)) (.agg (Rdr.cells Q_api_Vote b).toArray) w K := Fld.stN (r := Q_api_Vote) (s := Q_api_Vote) Fld.self hs h1 h
theorem L_api_Vote__ID {h : Heap} {g : Nat} {t : TypeId} {fr : Nat × Nat} {a} (hg : h[g]? = some (.cells (Rdr.cells Q_api_Vote a).toArray t fr)) (K : Value → Prop) : ldN 32 (.pointer (some ⟨g, 0, none⟩)) h K = K (.agg (Rdr.cells (rVec 32) a.1).toArray) := Fld.ldN (r := Q_api_Vote) (s := (rVec 32)) (Fld.fst Fld.self) hg K
theorem LA_api_Vote__ID {h : Heap} {g o : Nat} {a} (hg : At h g o (Rdr.cells Q_api_Vote a)) (K : Value → Prop) : ldN 32 (.pointer (some ⟨g, o, none⟩)) h K = K (.agg (Rdr.cells (rVec 32) a.1).toArray) := Fld.ldNA (r := Q_api_Vote) (s := (rVec 32)) (Fld.fst Fld.self) hg K
theorem St_api_Vote__ID {w0 w : World} {As : List Asn} {g : Nat} {t : TypeId} {a} {b} {K : World → Prop} (hs : Sep w0 w (blk g (Rdr.cells Q_api_Vote a).toArray t :: As)) (h1 : ∀ u ∈ Rdr.cells (rVec 32) b, u.oneCell' = true) (h : ∀ w', Sep w0 w' (blk g (Rdr.cells Q_api_Vote (b, a.2)).toArray t :: As) → K w') : stN 32 (.pointer (some ⟨g, 0, none⟩)) (.agg (Rdr.cells (rVec 32) b).toArray) w K := Fld.stN (r := Q_api_Vote) (s := (rVec 32)) (Fld.fst Fld.self) hs h1 h
theorem L_api_Vote__N {h : Heap} {g : Nat} {t : TypeId} {fr : Nat × Nat} {a} (hg : h[g]? = some (.cells (Rdr.cells Q_api_Vote a).toArray t fr)) (K : Value → Prop) : ld1 (.pointer (some ⟨g, 32, none⟩)) h K = K (.int .i64 a.2) := Fld.ldI (r := Q_api_Vote) (Fld.snd Fld.self) hg K
theorem LA_api_Vote__N {h : Heap} {g o : Nat} {a} (hg : At h g o (Rdr.cells Q_api_Vote a)) (K : Value → Prop) : ld1 (.pointer (some ⟨g, o + 32, none⟩)) h K = K (.int .i64 a.2) := Fld.ldI' (r := Q_api_Vote) (Fld.snd Fld.self) hg K
theorem St_api_Vote__N {w0 w : World} {As : List Asn} {g : Nat} {t : TypeId} {a} {b} {K : World → Prop} (hs : Sep w0 w (blk g (Rdr.cells Q_api_Vote a).toArray t :: As)) (h : ∀ w', Sep w0 w' (blk g (Rdr.cells Q_api_Vote (a.1, b)).toArray t :: As) → K w') : st1 (.pointer (some ⟨g, 32, none⟩)) (.int .i64 b) w K := Fld.stV (r := Q_api_Vote) (s := (rInt .i64)) (Fld.snd Fld.self) rfl hs rfl h
theorem one_api_Vote {a}  : ∀ u ∈ Rdr.cells Q_api_Vote a, u.oneCell' = true := (onePair oneVec oneI)
theorem A_api_Vote (w : World) : (Instr.alloc T_api_Vote true (.tuple #[])).run P w = .ok (.pointer (some ⟨w.heap.size, 0, none⟩)) (w.alloc (.cells (Rdr.cells Q_api_Vote ((vz 32), (0 : Int))).toArray T_api_Vote)) := by kernel_rfl
theorem pl_api_Vote : ((fsOf P T_api_Vote).toList.mapM fun f : Field => (P.info? f.type).map fun i => (f.offset, i.size)) = some (#[(0, 32), (32, 1)] : Array (Nat × Nat)).toList := by kernel_rfl
theorem z_api_Vote : ((P.info? T_api_Vote).bind fun it => it.zero.map fun z => z.cells) = some (Rdr.cells Q_api_Vote ((vz 32), (0 : Int))).toArray := by kernel_rfl
abbrev Q_a32_uint8 := rVec 32
theorem A_a32_uint8 (w : World) : (Instr.alloc T_a32_uint8 true (.tuple #[])).run P w = .ok (.pointer (some ⟨w.heap.size, 0, none⟩)) (w.alloc (.cells (Rdr.cells (rVec 32) (vz 32)).toArray T_a32_uint8)) := by kernel_rfl
theorem L_a32_uint8 {h : Heap} {g : Nat} {t : TypeId} {fr : Nat × Nat} {a} (hg : h[g]? = some (.cells (Rdr.cells (rVec 32) a).toArray t fr)) (K : Value → Prop) : ldN 32 (.pointer (some ⟨g, 0, none⟩)) h K = K (.agg (Rdr.cells (rVec 32) a).toArray) := Fld.ldN (r := rVec 32) (s := rVec 32) Fld.self hg K
theorem St_a32_uint8 {w0 w : World} {As : List Asn} {g : Nat} {t : TypeId} {a} {b} {K : World → Prop} (hs : Sep w0 w (blk g (Rdr.cells (rVec 32) a).toArray t :: As)) (h : ∀ w', Sep w0 w' (blk g (Rdr.cells (rVec 32) b).toArray t :: As) → K w') : stN 32 (.pointer (some ⟨g, 0, none⟩)) (.agg (Rdr.cells (rVec 32) b).toArray) w K := Fld.stN (r := rVec 32) (s := rVec 32) Fld.self hs oneVec h
theorem EQ_a32_uint8 : EqT P T_a32_uint8 (rVec 32) true 2 := eqT_vec U_a32_uint8 U_uint8 (by kernel_rfl) (by kernel_rfl)
theorem eq_a32_uint8 {x y : Operand} {w : World} {a b : Vec 32} (K : Value → Prop) : rdP P (eqS .eql T_a32_uint8 x y (.agg (Rdr.cells (rVec 32) a).toArray) (.agg (Rdr.cells (rVec 32) b).toArray)) w K = K (.bool (decide (a = b))) := eqS_agg EQ_a32_uint8 (by decide) (by kernel_rfl) K
theorem ne_a32_uint8 {x y : Operand} {w : World} {a b : Vec 32} (K : Value → Prop) : rdP P (eqS .neq T_a32_uint8 x y (.agg (Rdr.cells (rVec 32) a).toArray) (.agg (Rdr.cells (rVec 32) b).toArray)) w K = K (.bool (!decide (a = b))) := neS_agg EQ_a32_uint8 (by decide) (by kernel_rfl) K
abbrev Q_api_ID := rVec 32
theorem A_api_ID (w : World) : (Instr.alloc T_api_ID true (.tuple #[])).run P w = .ok (.pointer (some ⟨w.heap.size, 0, none⟩)) (w.alloc (.cells (Rdr.cells (rVec 32) (vz 32)).toArray T_api_ID)) := by kernel_rfl
theorem L_api_ID {h : Heap} {g : Nat} {t : TypeId} {fr : Nat × Nat} {a} (hg : h[g]? = some (.cells (Rdr.cells (rVec 32) a).toArray t fr)) (K : Value → Prop) : ldN 32 (.pointer (some ⟨g, 0, none⟩)) h K = K (.agg (Rdr.cells (rVec 32) a).toArray) := Fld.ldN (r := rVec 32) (s := rVec 32) Fld.self hg K
theorem St_api_ID {w0 w : World} {As : List Asn} {g : Nat} {t : TypeId} {a} {b} {K : World → Prop} (hs : Sep w0 w (blk g (Rdr.cells (rVec 32) a).toArray t :: As)) (h : ∀ w', Sep w0 w' (blk g (Rdr.cells (rVec 32) b).toArray t :: As) → K w') : stN 32 (.pointer (some ⟨g, 0, none⟩)) (.agg (Rdr.cells (rVec 32) b).toArray) w K := Fld.stN (r := rVec 32) (s := rVec 32) Fld.self hs oneVec h
theorem EQ_api_ID : EqT P T_api_ID (rVec 32) true 2 := eqT_vec U_api_ID U_uint8 (by kernel_rfl) (by kernel_rfl)
theorem eq_api_ID {x y : Operand} {w : World} {a b : Vec 32} (K : Value → Prop) : rdP P (eqS .eql T_api_ID x y (.agg (Rdr.cells (rVec 32) a).toArray) (.agg (Rdr.cells (rVec 32) b).toArray)) w K = K (.bool (decide (a = b))) := eqS_agg EQ_api_ID (by decide) (by kernel_rfl) K
theorem ne_api_ID {x y : Operand} {w : World} {a b : Vec 32} (K : Value → Prop) : rdP P (eqS .neq T_api_ID x y (.agg (Rdr.cells (rVec 32) a).toArray) (.agg (Rdr.cells (rVec 32) b).toArray)) w K = K (.bool (!decide (a = b))) := neS_agg EQ_api_ID (by decide) (by kernel_rfl) K
abbrev Q_a3_uint8 := rVec 3
theorem A_a3_uint8 (w : World) : (Instr.alloc T_a3_uint8 true (.tuple #[])).run P w = .ok (.pointer (some ⟨w.heap.size, 0, none⟩)) (w.alloc (.cells (Rdr.cells (rVec 3) (vz 3)).toArray T_a3_uint8)) := by kernel_rfl
theorem L_a3_uint8 {h : Heap} {g : Nat} {t : TypeId} {fr : Nat × Nat} {a} (hg : h[g]? = some (.cells (Rdr.cells (rVec 3) a).toArray t fr)) (K : Value → Prop) : ldN 3 (.pointer (some ⟨g, 0, none⟩)) h K = K (.agg (Rdr.cells (rVec 3) a).toArray) := Fld.ldN (r := rVec 3) (s := rVec 3) Fld.self hg K
theorem St_a3_uint8 {w0 w : World} {As : List Asn} {g : Nat} {t : TypeId} {a} {b} {K : World → Prop} (hs : Sep w0 w (blk g (Rdr.cells (rVec 3) a).toArray t :: As)) (h : ∀ w', Sep w0 w' (blk g (Rdr.cells (rVec 3) b).toArray t :: As) → K w') : stN 3 (.pointer (some ⟨g, 0, none⟩)) (.agg (Rdr.cells (rVec 3) b).toArray) w K := Fld.stN (r := rVec 3) (s := rVec 3) Fld.self hs oneVec h
theorem EQ_a3_uint8 : EqT P T_a3_uint8 (rVec 3) true 2 := eqT_vec U_a3_uint8 U_uint8 (by kernel_rfl) (by kernel_rfl)
theorem eq_a3_uint8 {x y : Operand} {w : World} {a b : Vec 3} (K : Value → Prop) : rdP P (eqS .eql T_a3_uint8 x y (.agg (Rdr.cells (rVec 3) a).toArray) (.agg (Rdr.cells (rVec 3) b).toArray)) w K = K (.bool (decide (a = b))) := eqS_agg EQ_a3_uint8 (by decide) (by kernel_rfl) K
theorem ne_a3_uint8 {x y : Operand} {w : World} {a b : Vec 3} (K : Value → Prop) : rdP P (eqS .neq T_a3_uint8 x y (.agg (Rdr.cells (rVec 3) a).toArray) (.agg (Rdr.cells (rVec 3) b).toArray)) w K = K (.bool (!decide (a = b))) := neS_agg EQ_a3_uint8 (by decide) (by kernel_rfl) K
theorem EQ_api_Params : EqT P T_api_Params Q_api_Params true 2 := eqT_struct (l := [(T_int, 0), (T_int, 1), (T_int, 2), (T_int, 3)]) (by kernel_rfl) (by kernel_rfl) (by kernel_rfl) (by kernel_rfl) (eqF_cons (eqT_int U_int (by kernel_rfl)) (eqF_cons (eqT_int U_int (by kernel_rfl)) (eqF_cons (eqT_int U_int (by kernel_rfl)) (eqF_last (eqT_int U_int (by kernel_rfl))))))
theorem eq_api_Params {x y : Operand} {w : World} {a b} (K : Value → Prop) : rdP P (eqS .eql T_api_Params x y (.agg (Rdr.cells Q_api_Params a).toArray) (.agg (Rdr.cells Q_api_Params b).toArray)) w K = K (.bool (decide (a = b))) := eqS_agg EQ_api_Params (by decide) (by kernel_rfl) K
theorem ne_api_Params {x y : Operand} {w : World} {a b} (K : Value → Prop) : rdP P (eqS .neq T_api_Params x y (.agg (Rdr.cells Q_api_Params a).toArray) (.agg (Rdr.cells Q_api_Params b).toArray)) w K = K (.bool (!decide (a = b))) := neS_agg EQ_api_Params (by decide) (by kernel_rfl) K
theorem EQ_api_Choice : EqT P T_api_Choice Q_api_Choice true 3 := eqT_struct (l := [(T_api_ID, 0), (T_int, 32)]) (by kernel_rfl) (by kernel_rfl) (by kernel_rfl) (by kernel_rfl) (eqF_cons EQ_api_ID (eqF_last (eqT_up (eqT_int U_int (by kernel_rfl)) (by decide))))
theorem eq_api_Choice {x y : Operand} {w : World} {a b} (K : Value → Prop) : rdP P (eqS .eql T_api_Choice x y (.agg (Rdr.cells Q_api_Choice a).toArray) (.agg (Rdr.cells Q_api_Choice b).toArray)) w K = K (.bool (decide (a = b))) := eqS_agg EQ_api_Choice (by decide) (by kernel_rfl) K
theorem ne_api_Choice {x y : Operand} {w : World} {a b} (K : Value → Prop) : rdP P (eqS .neq T_api_Choice x y (.agg (Rdr.cells Q_api_Choice a).toArray) (.agg (Rdr.cells Q_api_Choice b).toArray)) w K = K (.bool (!decide (a = b))) := neS_agg EQ_api_Choice (by decide) (by kernel_rfl) K
theorem EQ_api_Vote : EqT P T_api_Vote Q_api_Vote true 3 := eqT_struct (l := [(T_api_ID, 0), (T_int, 32)]) (by kernel_rfl) (by kernel_rfl) (by kernel_rfl) (by kernel_rfl) (eqF_cons EQ_api_ID (eqF_last (eqT_up (eqT_int U_int (by kernel_rfl)) (by decide))))
theorem eq_api_Vote {x y : Operand} {w : World} {a b} (K : Value → Prop) : rdP P (eqS .eql T_api_Vote x y (.agg (Rdr.cells Q_api_Vote a).toArray) (.agg (Rdr.cells Q_api_Vote b).toArray)) w K = K (.bool (decide (a = b))) := eqS_agg EQ_api_Vote (by decide) (by kernel_rfl) K
theorem ne_api_Vote {x y : Operand} {w : World} {a b} (K : Value → Prop) : rdP P (eqS .neq T_api_Vote x y (.agg (Rdr.cells Q_api_Vote a).toArray) (.agg (Rdr.cells Q_api_Vote b).toArray)) w K = K (.bool (!decide (a = b))) := neS_agg EQ_api_Vote (by decide) (by kernel_rfl) K
theorem EQ_flurrylaw17_Act : EqT P T_flurrylaw17_Act Q_flurrylaw17_Act true 3 := eqT_struct (l := [(T_uint8, 0), (T_int, 1), (T_bool, 2), (T_api_ID, 3)]) (by kernel_rfl) (by kernel_rfl) (by kernel_rfl) (by kernel_rfl) (eqF_cons (eqT_up (eqT_int U_uint8 (by kernel_rfl)) (by decide)) (eqF_cons (eqT_up (eqT_int U_int (by kernel_rfl)) (by decide)) (eqF_cons (eqT_up (eqT_bool U_bool (by kernel_rfl)) (by decide)) (eqF_last EQ_api_ID))))
theorem eq_flurrylaw17_Act {x y : Operand} {w : World} {a b} (K : Value → Prop) : rdP P (eqS .eql T_flurrylaw17_Act x y (.agg (Rdr.cells Q_flurrylaw17_Act a).toArray) (.agg (Rdr.cells Q_flurrylaw17_Act b).toArray)) w K = K (.bool (decide (a = b))) := eqS_agg EQ_flurrylaw17_Act (by decide) (by kernel_rfl) K
theorem ne_flurrylaw17_Act {x y : Operand} {w : World} {a b} (K : Value → Prop) : rdP P (eqS .neq T_flurrylaw17_Act x y (.agg (Rdr.cells Q_flurrylaw17_Act a).toArray) (.agg (Rdr.cells Q_flurrylaw17_Act b).toArray)) w K = K (.bool (!decide (a = b))) := neS_agg EQ_flurrylaw17_Act (by decide) (by kernel_rfl) K
theorem B_api_Params_0_1_2_3 {b0 : Int} {b1 : Int} {b2 : Int} {b3 : Int} {w : World}  (K : Value → Prop) : rdP P (Instr.build T_api_Params #[(0, .int .i64 b0), (1, .int .i64 b1), (2, .int .i64 b2), (3, .int .i64 b3)]) w K = K (.agg (Rdr.cells Q_api_Params (b0, b1, b2, b3)).toArray) := by
  refine rd_build ?_ K
  refine (built_struct z_api_Params U_api_Params pl_api_Params).trans ?_
  refine Eq.trans (fill_step (r := Q_api_Params) (s := (rInt .i64)) (Fld.fst Fld.self) (a := ((0 : Int), (0 : Int), (0 : Int), (0 : Int))) rfl rfl) ?_
  refine Eq.trans (fill_step (r := Q_api_Params) (s := (rInt .i64)) (Fld.snd (Fld.fst Fld.self)) (a := (b0, (0 : Int), (0 : Int), (0 : Int))) rfl rfl) ?_
  refine Eq.trans (fill_step (r := Q_api_Params) (s := (rInt .i64)) (Fld.snd (Fld.snd (Fld.fst Fld.self))) (a := (b0, b1, (0 : Int), (0 : Int))) rfl rfl) ?_
  refine Eq.trans (fill_step (r := Q_api_Params) (s := (rInt .i64)) (Fld.snd (Fld.snd (Fld.snd Fld.self))) (a := (b0, b1, b2, (0 : Int))) rfl rfl) ?_
  rfl
theorem B_api_Snow  {w : World}  (K : Value → Prop) : rdP P (Instr.build T_api_Snow #[]) w K = K (.agg (Rdr.cells Q_api_Snow (((Value.slice none 0 0)), (vz 32), (vz 32), (0 : Int), false)).toArray) := by
  refine rd_build ?_ K
  refine (built_struct z_api_Snow U_api_Snow pl_api_Snow).trans ?_
  rfl
theorem B_api_Snow_0_1_2 {b0 : Value} {b1} {b2} {w : World} (h0 : b0.oneCell' = true) (K : Value → Prop) : rdP P (Instr.build T_api_Snow #[(0, b0), (1, .agg (Rdr.cells (rVec 32) b1).toArray), (2, .agg (Rdr.cells (rVec 32) b2).toArray)]) w K = K (.agg (Rdr.cells Q_api_Snow (b0, b1, b2, (0 : Int), false)).toArray) := by
  refine rd_build ?_ K
  refine (built_struct z_api_Snow U_api_Snow pl_api_Snow).trans ?_
  refine Eq.trans (fill_step (r := Q_api_Snow) (s := qv) (Fld.fst Fld.self) (a := (((Value.slice none 0 0)), (vz 32), (vz 32), (0 : Int), false)) rfl (cells_one h0)) ?_
  refine Eq.trans (fill_step (r := Q_api_Snow) (s := (rVec 32)) (Fld.snd (Fld.fst Fld.self)) (a := (b0, (vz 32), (vz 32), (0 : Int), false)) rfl rfl) ?_
  refine Eq.trans (fill_step (r := Q_api_Snow) (s := (rVec 32)) (Fld.snd (Fld.snd (Fld.fst Fld.self))) (a := (b0, b1, (vz 32), (0 : Int), false)) rfl rfl) ?_
  rfl
theorem B_api_Choice_0 {b0} {w : World}  (K : Value → Prop) : rdP P (Instr.build T_api_Choice #[(0, .agg (Rdr.cells (rVec 32) b0).toArray)]) w K = K (.agg (Rdr.cells Q_api_Choice (b0, (0 : Int))).toArray) := by
  refine rd_build ?_ K
  refine (built_struct z_api_Choice U_api_Choice pl_api_Choice).trans ?_
  refine Eq.trans (fill_step (r := Q_api_Choice) (s := (rVec 32)) (Fld.fst Fld.self) (a := ((vz 32), (0 : Int))) rfl rfl) ?_
  rfl
theorem B_api_Vote_0_1 {b0} {b1 : Int} {w : World}  (K : Value → Prop) : rdP P (Instr.build T_api_Vote #[(0, .agg (Rdr.cells (rVec 32) b0).toArray), (1, .int .i64 b1)]) w K = K (.agg (Rdr.cells Q_api_Vote (b0, b1)).toArray) := by
  refine rd_build ?_ K
  refine (built_struct z_api_Vote U_api_Vote pl_api_Vote).trans ?_
  refine Eq.trans (fill_step (r := Q_api_Vote) (s := (rVec 32)) (Fld.fst Fld.self) (a := ((vz 32), (0 : Int))) rfl rfl) ?_
  refine Eq.trans (fill_step (r := Q_api_Vote) (s := (rInt .i64)) (Fld.snd Fld.self) (a := (b0, (0 : Int))) rfl rfl) ?_
  rfl
abbrev R_int := (rInt .i64)
theorem TR_int : Trods P T_int R_int := trods_int U_int
theorem O_int {H : Type} {enc : TypeId × Value → H} {w : World} {sp : Nat → Bool} {held : Bool} {fuel : Nat} {cs : Array Value} {x : DataW H × List MemPlace} (h : DataW.trod enc P w 0 sp held fuel T_int cs.toList = some x) : ∃ a, cs = (Rdr.cells R_int a).toArray ∧ Rdr.ok R_int w.heap a := by
  obtain ⟨a, e, ok⟩ := TR_int H enc w sp held fuel _ x h
  exact ⟨a, by apply Array.ext'; exact e, ok⟩
abbrev R_bool := rBool
theorem TR_bool : Trods P T_bool R_bool := trods_bool U_bool
theorem O_bool {H : Type} {enc : TypeId × Value → H} {w : World} {sp : Nat → Bool} {held : Bool} {fuel : Nat} {cs : Array Value} {x : DataW H × List MemPlace} (h : DataW.trod enc P w 0 sp held fuel T_bool cs.toList = some x) : ∃ a, cs = (Rdr.cells R_bool a).toArray ∧ Rdr.ok R_bool w.heap a := by
  obtain ⟨a, e, ok⟩ := TR_bool H enc w sp held fuel _ x h
  exact ⟨a, by apply Array.ext'; exact e, ok⟩
abbrev R_uint8 := (rNat .u8 256)
theorem TR_uint8 : Trods P T_uint8 R_uint8 := trods_u8 U_uint8
theorem O_uint8 {H : Type} {enc : TypeId × Value → H} {w : World} {sp : Nat → Bool} {held : Bool} {fuel : Nat} {cs : Array Value} {x : DataW H × List MemPlace} (h : DataW.trod enc P w 0 sp held fuel T_uint8 cs.toList = some x) : ∃ a, cs = (Rdr.cells R_uint8 a).toArray ∧ Rdr.ok R_uint8 w.heap a := by
  obtain ⟨a, e, ok⟩ := TR_uint8 H enc w sp held fuel _ x h
  exact ⟨a, by apply Array.ext'; exact e, ok⟩
abbrev R_api_Params := (Rdr.pair R_int (Rdr.pair R_int (Rdr.pair R_int R_int)))
theorem TR_api_Params : Trods P T_api_Params R_api_Params := trods_struct U_api_Params (by kernel_rfl) (trodsF_cons (by kernel_rfl) (by kernel_rfl) TR_int (trodsF_cons (by kernel_rfl) (by kernel_rfl) TR_int (trodsF_cons (by kernel_rfl) (by kernel_rfl) TR_int (trodsF_last (by kernel_rfl) (by kernel_rfl) TR_int))))
theorem O_api_Params {H : Type} {enc : TypeId × Value → H} {w : World} {sp : Nat → Bool} {held : Bool} {fuel : Nat} {cs : Array Value} {x : DataW H × List MemPlace} (h : DataW.trod enc P w 0 sp held fuel T_api_Params cs.toList = some x) : ∃ a, cs = (Rdr.cells R_api_Params a).toArray ∧ Rdr.ok R_api_Params w.heap a := by
  obtain ⟨a, e, ok⟩ := TR_api_Params H enc w sp held fuel _ x h
  exact ⟨a, by apply Array.ext'; exact e, ok⟩
abbrev R_api_ID := (rVec 32)
theorem TR_api_ID : Trods P T_api_ID R_api_ID := trods_vec U_api_ID U_uint8 (by kernel_rfl) (by kernel_rfl)
theorem O_api_ID {H : Type} {enc : TypeId × Value → H} {w : World} {sp : Nat → Bool} {held : Bool} {fuel : Nat} {cs : Array Value} {x : DataW H × List MemPlace} (h : DataW.trod enc P w 0 sp held fuel T_api_ID cs.toList = some x) : ∃ a, cs = (Rdr.cells R_api_ID a).toArray ∧ Rdr.ok R_api_ID w.heap a := by
  obtain ⟨a, e, ok⟩ := TR_api_ID H enc w sp held fuel _ x h
  exact ⟨a, by apply Array.ext'; exact e, ok⟩
abbrev R_api_Choice := (Rdr.pair R_api_ID R_int)
theorem TR_api_Choice : Trods P T_api_Choice R_api_Choice := trods_struct U_api_Choice (by kernel_rfl) (trodsF_cons (by kernel_rfl) (by kernel_rfl) TR_api_ID (trodsF_last (by kernel_rfl) (by kernel_rfl) TR_int))
theorem O_api_Choice {H : Type} {enc : TypeId × Value → H} {w : World} {sp : Nat → Bool} {held : Bool} {fuel : Nat} {cs : Array Value} {x : DataW H × List MemPlace} (h : DataW.trod enc P w 0 sp held fuel T_api_Choice cs.toList = some x) : ∃ a, cs = (Rdr.cells R_api_Choice a).toArray ∧ Rdr.ok R_api_Choice w.heap a := by
  obtain ⟨a, e, ok⟩ := TR_api_Choice H enc w sp held fuel _ x h
  exact ⟨a, by apply Array.ext'; exact e, ok⟩
abbrev R_sl_api_Choice := (rSl R_api_Choice)
theorem TR_sl_api_Choice : Trods P T_sl_api_Choice R_sl_api_Choice := trods_sl TR_api_Choice U_sl_api_Choice (by kernel_rfl) (by decide)
theorem O_sl_api_Choice {H : Type} {enc : TypeId × Value → H} {w : World} {sp : Nat → Bool} {held : Bool} {fuel : Nat} {v : Value} {x : DataW H × List MemPlace} (h : DataW.trod enc P w 0 sp held fuel T_sl_api_Choice [v] = some x) : ∃ l, Rdr.ok R_sl_api_Choice w.heap ⟨v, l⟩ := by
  obtain ⟨⟨v', l⟩, e, ok⟩ := TR_sl_api_Choice H enc w sp held fuel _ x h
  have ev : v = v' := (List.cons.inj e).1
  subst ev
  exact ⟨l, ok⟩
abbrev R_api_Snow := (Rdr.pair R_sl_api_Choice (Rdr.pair R_api_ID (Rdr.pair R_api_ID (Rdr.pair R_int R_bool))))
theorem TR_api_Snow : Trods P T_api_Snow R_api_Snow := trods_struct U_api_Snow (by kernel_rfl) (trodsF_cons (by kernel_rfl) (by kernel_rfl) TR_sl_api_Choice (trodsF_cons (by kernel_rfl) (by kernel_rfl) TR_api_ID (trodsF_cons (by kernel_rfl) (by kernel_rfl) TR_api_ID (trodsF_cons (by kernel_rfl) (by kernel_rfl) TR_int (trodsF_last (by kernel_rfl) (by kernel_rfl) TR_bool)))))
theorem O_api_Snow {H : Type} {enc : TypeId × Value → H} {w : World} {sp : Nat → Bool} {held : Bool} {fuel : Nat} {cs : Array Value} {x : DataW H × List MemPlace} (h : DataW.trod enc P w 0 sp held fuel T_api_Snow cs.toList = some x) : ∃ a, cs = (Rdr.cells R_api_Snow a).toArray ∧ Rdr.ok R_api_Snow w.heap a := by
  obtain ⟨a, e, ok⟩ := TR_api_Snow H enc w sp held fuel _ x h
  exact ⟨a, by apply Array.ext'; exact e, ok⟩
abbrev R_api_Vote := (Rdr.pair R_api_ID R_int)
theorem TR_api_Vote : Trods P T_api_Vote R_api_Vote := trods_struct U_api_Vote (by kernel_rfl) (trodsF_cons (by kernel_rfl) (by kernel_rfl) TR_api_ID (trodsF_last (by kernel_rfl) (by kernel_rfl) TR_int))
theorem O_api_Vote {H : Type} {enc : TypeId × Value → H} {w : World} {sp : Nat → Bool} {held : Bool} {fuel : Nat} {cs : Array Value} {x : DataW H × List MemPlace} (h : DataW.trod enc P w 0 sp held fuel T_api_Vote cs.toList = some x) : ∃ a, cs = (Rdr.cells R_api_Vote a).toArray ∧ Rdr.ok R_api_Vote w.heap a := by
  obtain ⟨a, e, ok⟩ := TR_api_Vote H enc w sp held fuel _ x h
  exact ⟨a, by apply Array.ext'; exact e, ok⟩
abbrev R_sl_api_Vote := (rSl R_api_Vote)
theorem TR_sl_api_Vote : Trods P T_sl_api_Vote R_sl_api_Vote := trods_sl TR_api_Vote U_sl_api_Vote (by kernel_rfl) (by decide)
theorem O_sl_api_Vote {H : Type} {enc : TypeId × Value → H} {w : World} {sp : Nat → Bool} {held : Bool} {fuel : Nat} {v : Value} {x : DataW H × List MemPlace} (h : DataW.trod enc P w 0 sp held fuel T_sl_api_Vote [v] = some x) : ∃ l, Rdr.ok R_sl_api_Vote w.heap ⟨v, l⟩ := by
  obtain ⟨⟨v', l⟩, e, ok⟩ := TR_sl_api_Vote H enc w sp held fuel _ x h
  have ev : v = v' := (List.cons.inj e).1
  subst ev
  exact ⟨l, ok⟩
abbrev R_a3_uint8 := (rVec 3)
theorem TR_a3_uint8 : Trods P T_a3_uint8 R_a3_uint8 := trods_vec U_a3_uint8 U_uint8 (by kernel_rfl) (by kernel_rfl)
theorem O_a3_uint8 {H : Type} {enc : TypeId × Value → H} {w : World} {sp : Nat → Bool} {held : Bool} {fuel : Nat} {cs : Array Value} {x : DataW H × List MemPlace} (h : DataW.trod enc P w 0 sp held fuel T_a3_uint8 cs.toList = some x) : ∃ a, cs = (Rdr.cells R_a3_uint8 a).toArray ∧ Rdr.ok R_a3_uint8 w.heap a := by
  obtain ⟨a, e, ok⟩ := TR_a3_uint8 H enc w sp held fuel _ x h
  exact ⟨a, by apply Array.ext'; exact e, ok⟩
abbrev R_flurrylaw17_Act := (Rdr.pair R_uint8 (Rdr.pair R_int (Rdr.pair R_bool R_api_ID)))
theorem TR_flurrylaw17_Act : Trods P T_flurrylaw17_Act R_flurrylaw17_Act := trods_struct U_flurrylaw17_Act (by kernel_rfl) (trodsF_cons (by kernel_rfl) (by kernel_rfl) TR_uint8 (trodsF_cons (by kernel_rfl) (by kernel_rfl) TR_int (trodsF_cons (by kernel_rfl) (by kernel_rfl) TR_bool (trodsF_last (by kernel_rfl) (by kernel_rfl) TR_api_ID))))
theorem O_flurrylaw17_Act {H : Type} {enc : TypeId × Value → H} {w : World} {sp : Nat → Bool} {held : Bool} {fuel : Nat} {cs : Array Value} {x : DataW H × List MemPlace} (h : DataW.trod enc P w 0 sp held fuel T_flurrylaw17_Act cs.toList = some x) : ∃ a, cs = (Rdr.cells R_flurrylaw17_Act a).toArray ∧ Rdr.ok R_flurrylaw17_Act w.heap a := by
  obtain ⟨a, e, ok⟩ := TR_flurrylaw17_Act H enc w sp held fuel _ x h
  exact ⟨a, by apply Array.ext'; exact e, ok⟩
abbrev R_sl_flurrylaw17_Act := (rSl R_flurrylaw17_Act)
theorem TR_sl_flurrylaw17_Act : Trods P T_sl_flurrylaw17_Act R_sl_flurrylaw17_Act := trods_sl TR_flurrylaw17_Act U_sl_flurrylaw17_Act (by kernel_rfl) (by decide)
theorem O_sl_flurrylaw17_Act {H : Type} {enc : TypeId × Value → H} {w : World} {sp : Nat → Bool} {held : Bool} {fuel : Nat} {v : Value} {x : DataW H × List MemPlace} (h : DataW.trod enc P w 0 sp held fuel T_sl_flurrylaw17_Act [v] = some x) : ∃ l, Rdr.ok R_sl_flurrylaw17_Act w.heap ⟨v, l⟩ := by
  obtain ⟨⟨v', l⟩, e, ok⟩ := TR_sl_flurrylaw17_Act H enc w sp held fuel _ x h
  have ev : v = v' := (List.cons.inj e).1
  subst ev
  exact ⟨l, ok⟩
end Go.Fx
