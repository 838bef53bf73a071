/-
  The types of this seat: what each is, how arguments of it are read, how a variable of it is made; printed by program.
-/
import Derived.Test.YtiipcclmmhkggaaFxR
import Derived.Test.YtiipcclmmhkggaaGen
set_option linter.unusedVariables false
set_option maxRecDepth 100000
namespace Go.Fx
theorem U_int64 : P.underlying T_int64 = some (.int .i64) := by kernel_rfl
theorem Z_int64 : zc P T_int64 = #[(Value.int IntKind.i64 0)] := by kernel_rfl
theorem U_int : P.underlying T_int = some (.int .i64) := by kernel_rfl
theorem Z_int : zc P T_int = #[(Value.int IntKind.i64 0)] := by kernel_rfl
theorem U_bool : P.underlying T_bool = some .bool := by kernel_rfl
theorem Z_bool : zc P T_bool = #[(Value.bool false)] := by kernel_rfl
theorem U_uint8 : P.underlying T_uint8 = some (.int .u8) := by kernel_rfl
theorem Z_uint8 : zc P T_uint8 = #[(Value.int IntKind.u8 0)] := by kernel_rfl
theorem U_string : P.underlying T_string = some .string := by kernel_rfl
theorem U_uintptr : P.underlying T_uintptr = some (.int .u64) := by kernel_rfl
theorem Z_uintptr : zc P T_uintptr = #[(Value.int IntKind.u64 0)] := by kernel_rfl
theorem U_int32 : P.underlying T_int32 = some (.int .i32) := by kernel_rfl
theorem Z_int32 : zc P T_int32 = #[(Value.int IntKind.i32 0)] := by kernel_rfl
theorem U_uint16 : P.underlying T_uint16 = some (.int .u16) := by kernel_rfl
theorem Z_uint16 : zc P T_uint16 = #[(Value.int IntKind.u16 0)] := by kernel_rfl
theorem U_sl_uint8 : P.underlying T_sl_uint8 = some (.slice T_uint8) := by kernel_rfl
theorem Z_sl_uint8 : zc P T_sl_uint8 = #[(Value.slice none 0 0)] := by kernel_rfl
theorem S_sl_uint8 : SlT P T_sl_uint8 T_uint8 1 1 := ⟨by kernel_rfl, by kernel_rfl, by kernel_rfl, by rw [show (P.info? T_uint8).bind (·.zero) = some ((Value.int IntKind.u8 0)) from by kernel_rfl]; simp, by kernel_rfl, by decide⟩
theorem U_p_tape_Tape : P.underlying T_p_tape_Tape = some (.pointer T_tape_Tape) := by kernel_rfl
theorem Z_p_tape_Tape : zc P T_p_tape_Tape = #[(Value.pointer none)] := by kernel_rfl
theorem U_api_Errno : P.underlying T_api_Errno = some (.int .i64) := by kernel_rfl
theorem Z_api_Errno : zc P T_api_Errno = #[(Value.int IntKind.i64 0)] := by kernel_rfl
theorem U_sl_sl_uint8 : P.underlying T_sl_sl_uint8 = some (.slice T_sl_uint8) := by kernel_rfl
theorem Z_sl_sl_uint8 : zc P T_sl_sl_uint8 = #[(Value.slice none 0 0)] := by kernel_rfl
theorem S_sl_sl_uint8 : SlT P T_sl_sl_uint8 T_sl_uint8 1 24 := ⟨by kernel_rfl, by kernel_rfl, by kernel_rfl, by rw [show (P.info? T_sl_uint8).bind (·.zero) = some ((Value.slice none 0 0)) from by kernel_rfl]; simp, by kernel_rfl, by decide⟩
theorem U_tape_Tape : P.underlying T_tape_Tape = some (.struct (fsOf P T_tape_Tape)) := by kernel_rfl
theorem Z_tape_Tape : zc P T_tape_Tape = #[(Value.slice none 0 0), (Value.int IntKind.i64 0), (Value.bool false), (Value.bool false)] := by kernel_rfl
theorem al_tape_Tape (w : World) : (Instr.alloc T_tape_Tape true (.tuple #[])).run P w = .ok (.pointer (some ⟨w.heap.size, 0, none⟩)) (w.alloc (.cells #[(Value.slice none 0 0), (Value.int IntKind.i64 0), (Value.bool false), (Value.bool false)] T_tape_Tape)) := by kernel_rfl
theorem U_sl_p_tape_Tape : P.underlying T_sl_p_tape_Tape = some (.slice T_p_tape_Tape) := by kernel_rfl
theorem Z_sl_p_tape_Tape : zc P T_sl_p_tape_Tape = #[(Value.slice none 0 0)] := by kernel_rfl
theorem S_sl_p_tape_Tape : SlT P T_sl_p_tape_Tape T_p_tape_Tape 1 8 := ⟨by kernel_rfl, by kernel_rfl, by kernel_rfl, by rw [show (P.info? T_p_tape_Tape).bind (·.zero) = some ((Value.pointer none)) from by kernel_rfl]; simp, by kernel_rfl, by decide⟩
theorem U_sl_flurrylaw08_Op : P.underlying T_sl_flurrylaw08_Op = some (.slice T_flurrylaw08_Op) := by kernel_rfl
theorem Z_sl_flurrylaw08_Op : zc P T_sl_flurrylaw08_Op = #[(Value.slice none 0 0)] := by kernel_rfl
theorem S_sl_flurrylaw08_Op : SlT P T_sl_flurrylaw08_Op T_flurrylaw08_Op 3 40 := ⟨by kernel_rfl, by kernel_rfl, by kernel_rfl, by rw [show (P.info? T_flurrylaw08_Op).bind (·.zero) = some ((Value.agg #[(Value.int IntKind.i64 0), (Value.int IntKind.i64 0), (Value.slice none 0 0)])) from by kernel_rfl]; simp, by kernel_rfl, by decide⟩
theorem U_flurrylaw08_Op : P.underlying T_flurrylaw08_Op = some (.struct (fsOf P T_flurrylaw08_Op)) := by kernel_rfl
theorem Z_flurrylaw08_Op : zc P T_flurrylaw08_Op = #[(Value.int IntKind.i64 0), (Value.int IntKind.i64 0), (Value.slice none 0 0)] := by kernel_rfl
theorem al_flurrylaw08_Op (w : World) : (Instr.alloc T_flurrylaw08_Op true (.tuple #[])).run P w = .ok (.pointer (some ⟨w.heap.size, 0, none⟩)) (w.alloc (.cells #[(Value.int IntKind.i64 0), (Value.int IntKind.i64 0), (Value.slice none 0 0)] T_flurrylaw08_Op)) := by kernel_rfl
theorem U_p_flurryref08_Tape : P.underlying T_p_flurryref08_Tape = some (.pointer T_flurryref08_Tape) := by kernel_rfl
theorem Z_p_flurryref08_Tape : zc P T_p_flurryref08_Tape = #[(Value.pointer none)] := by kernel_rfl
theorem U_flurryref08_Tape : P.underlying T_flurryref08_Tape = some (.struct (fsOf P T_flurryref08_Tape)) := by kernel_rfl
theorem Z_flurryref08_Tape : zc P T_flurryref08_Tape = #[(Value.slice none 0 0), (Value.bool false), (Value.int IntKind.i64 0)] := by kernel_rfl
theorem al_flurryref08_Tape (w : World) : (Instr.alloc T_flurryref08_Tape true (.tuple #[])).run P w = .ok (.pointer (some ⟨w.heap.size, 0, none⟩)) (w.alloc (.cells #[(Value.slice none 0 0), (Value.bool false), (Value.int IntKind.i64 0)] T_flurryref08_Tape)) := by kernel_rfl
theorem U_a0_p_runtime_PanicNilError : P.underlying T_a0_p_runtime_PanicNilError = some (.array 0 T_p_runtime_PanicNilError) := by kernel_rfl
theorem Z_a0_p_runtime_PanicNilError : zc P T_a0_p_runtime_PanicNilError = #[] := by kernel_rfl
theorem al_a0_p_runtime_PanicNilError (w : World) : (Instr.alloc T_a0_p_runtime_PanicNilError true (.tuple #[])).run P w = .ok (.pointer (some ⟨w.heap.size, 0, none⟩)) (w.alloc (.cells #[] T_a0_p_runtime_PanicNilError)) := by kernel_rfl
theorem U_uint32 : P.underlying T_uint32 = some (.int .u32) := by kernel_rfl
theorem Z_uint32 : zc P T_uint32 = #[(Value.int IntKind.u32 0)] := by kernel_rfl
theorem U_p_uint8 : P.underlying T_p_uint8 = some (.pointer T_uint8) := by kernel_rfl
theorem Z_p_uint8 : zc P T_p_uint8 = #[(Value.pointer none)] := by kernel_rfl
abbrev R_int := (rInt .i64)
theorem TR_int : Trods P T_int R_int := trods_int U_int
theorem O_int {H : Type} {enc : TypeId × Value → H} {w : World} {sp : Nat → Bool} {held : Bool} {fuel : Nat} {cs : Array Value} {x : DataW H × List MemPlace} (h : DataW.trod enc P w 0 sp held fuel T_int cs.toList = some x) : ∃ a, cs = (Rdr.cells R_int a).toArray ∧ Rdr.ok R_int w.heap a := by
  obtain ⟨a, e, ok⟩ := TR_int H enc w sp held fuel _ x h
  exact ⟨a, by apply Array.ext'; exact e, ok⟩
abbrev R_uint8 := (rNat .u8 256)
theorem TR_uint8 : Trods P T_uint8 R_uint8 := trods_u8 U_uint8
theorem O_uint8 {H : Type} {enc : TypeId × Value → H} {w : World} {sp : Nat → Bool} {held : Bool} {fuel : Nat} {cs : Array Value} {x : DataW H × List MemPlace} (h : DataW.trod enc P w 0 sp held fuel T_uint8 cs.toList = some x) : ∃ a, cs = (Rdr.cells R_uint8 a).toArray ∧ Rdr.ok R_uint8 w.heap a := by
  obtain ⟨a, e, ok⟩ := TR_uint8 H enc w sp held fuel _ x h
  exact ⟨a, by apply Array.ext'; exact e, ok⟩
abbrev R_uint16 := (rNat .u16 65536)
theorem TR_uint16 : Trods P T_uint16 R_uint16 := trods_u16 U_uint16
theorem O_uint16 {H : Type} {enc : TypeId × Value → H} {w : World} {sp : Nat → Bool} {held : Bool} {fuel : Nat} {cs : Array Value} {x : DataW H × List MemPlace} (h : DataW.trod enc P w 0 sp held fuel T_uint16 cs.toList = some x) : ∃ a, cs = (Rdr.cells R_uint16 a).toArray ∧ Rdr.ok R_uint16 w.heap a := by
  obtain ⟨a, e, ok⟩ := TR_uint16 H enc w sp held fuel _ x h
  exact ⟨a, by apply Array.ext'; exact e, ok⟩
abbrev R_sl_uint8 := rBytes
theorem TR_sl_uint8 : Trods P T_sl_uint8 R_sl_uint8 := trods_bytes U_sl_uint8 U_uint8 (by kernel_rfl)
theorem O_sl_uint8 {H : Type} {enc : TypeId × Value → H} {w : World} {sp : Nat → Bool} {held : Bool} {fuel : Nat} {v : Value} {x : DataW H × List MemPlace} (h : DataW.trod enc P w 0 sp held fuel T_sl_uint8 [v] = some x) : ∃ l, Rdr.ok R_sl_uint8 w.heap ⟨v, l⟩ := by
  obtain ⟨⟨v', l⟩, e, ok⟩ := TR_sl_uint8 H enc w sp held fuel _ x h
  have ev : v = v' := (List.cons.inj e).1
  subst ev
  exact ⟨l, ok⟩
abbrev R_sl_sl_uint8 := (rSl R_sl_uint8)
theorem TR_sl_sl_uint8 : Trods P T_sl_sl_uint8 R_sl_sl_uint8 := trods_sl TR_sl_uint8 U_sl_sl_uint8 (by kernel_rfl) (by decide)
theorem O_sl_sl_uint8 {H : Type} {enc : TypeId × Value → H} {w : World} {sp : Nat → Bool} {held : Bool} {fuel : Nat} {v : Value} {x : DataW H × List MemPlace} (h : DataW.trod enc P w 0 sp held fuel T_sl_sl_uint8 [v] = some x) : ∃ l, Rdr.ok R_sl_sl_uint8 w.heap ⟨v, l⟩ := by
  obtain ⟨⟨v', l⟩, e, ok⟩ := TR_sl_sl_uint8 H enc w sp held fuel _ x h
  have ev : v = v' := (List.cons.inj e).1
  subst ev
  exact ⟨l, ok⟩
abbrev R_flurrylaw08_Op := (Rdr.pair R_int (Rdr.pair R_int R_sl_sl_uint8))
theorem TR_flurrylaw08_Op : Trods P T_flurrylaw08_Op R_flurrylaw08_Op := trods_struct U_flurrylaw08_Op (by kernel_rfl) (trodsF_cons (by kernel_rfl) (by kernel_rfl) TR_int (trodsF_cons (by kernel_rfl) (by kernel_rfl) TR_int (trodsF_last (by kernel_rfl) (by kernel_rfl) TR_sl_sl_uint8)))
theorem O_flurrylaw08_Op {H : Type} {enc : TypeId × Value → H} {w : World} {sp : Nat → Bool} {held : Bool} {fuel : Nat} {cs : Array Value} {x : DataW H × List MemPlace} (h : DataW.trod enc P w 0 sp held fuel T_flurrylaw08_Op cs.toList = some x) : ∃ a, cs = (Rdr.cells R_flurrylaw08_Op a).toArray ∧ Rdr.ok R_flurrylaw08_Op w.heap a := by
  obtain ⟨a, e, ok⟩ := TR_flurrylaw08_Op H enc w sp held fuel _ x h
  exact ⟨a, by apply Array.ext'; exact e, ok⟩
abbrev R_sl_flurrylaw08_Op := (rSl R_flurrylaw08_Op)
theorem TR_sl_flurrylaw08_Op : Trods P T_sl_flurrylaw08_Op R_sl_flurrylaw08_Op := trods_sl TR_flurrylaw08_Op U_sl_flurrylaw08_Op (by kernel_rfl) (by decide)
theorem O_sl_flurrylaw08_Op {H : Type} {enc : TypeId × Value → H} {w : World} {sp : Nat → Bool} {held : Bool} {fuel : Nat} {v : Value} {x : DataW H × List MemPlace} (h : DataW.trod enc P w 0 sp held fuel T_sl_flurrylaw08_Op [v] = some x) : ∃ l, Rdr.ok R_sl_flurrylaw08_Op w.heap ⟨v, l⟩ := by
  obtain ⟨⟨v', l⟩, e, ok⟩ := TR_sl_flurrylaw08_Op H enc w sp held fuel _ x h
  have ev : v = v' := (List.cons.inj e).1
  subst ev
  exact ⟨l, ok⟩
theorem UT_bytes : P.underlying T_sl_uint8 = some (.slice T_uint8) := U_sl_uint8
theorem ST_bytes : SlT P T_sl_uint8 T_uint8 1 1 := S_sl_uint8
theorem ZC_uint8 : zc P T_uint8 = #[.int .u8 0] := by kernel_rfl
theorem UT_uint8 : P.underlying T_uint8 = some (.int .u8) := U_uint8
theorem UT_string : P.underlying T_string = some .string := by kernel_rfl
theorem UT_bool : P.underlying T_bool = some .bool := by kernel_rfl
theorem CO_uint8 : P.cellsOf T_uint8 = 1 := by kernel_rfl
end Go.Fx
