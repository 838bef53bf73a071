/-
  What the frames of all statements of this seat share where the row lists the variable sha.cubes.
-/
import Derived.Test.YticmbeincpaaeaaDoorBase
import Derived.Test.YticmbeincpaaeaaDoorCards
import Derived.Test.YticmbeincpaaeaaDoorTie
import Derived.Test.YticmbeincpaaeaaDoorShE
import Derived.LaidMore
import Derived.Stop.Joined
namespace Go.Proofs.YticmbeincpaaeaaDoor
open Go.ChangeShapes Go.WideShapes Go.ChangeAt Go.RowKit
abbrev laidL : List (String × DataW Unit) := [("flurry/sha.cubes", Rows.laid_flurry_sha_cubes)]
theorem gCubes : Tryd.prog.globalNamed "flurry/sha.cubes" = some 0 := by kernel_rfl
theorem tCubes : (Tryd.prog.globals[0]?).map (·.type) = some Go.Fx.T_a64_uint32 := by kernel_rfl
theorem door_met (os : Os) (args : Array Value) : laidMetH Tryd.prog laidL ((World.doorLaid Tryd.prog 400 os).forCall (fun _ _ => 0) ⟨#[], args, []⟩).memory :=
  laidMetH_of_parts3 (fuel := 8) (laidMet_of_run' 8 (by kernel_rfl) (by kernel_rfl)) (by kernel_rfl) (by kernel_rfl)
theorem cub_of_laid {W : World} (h : laidMetH Tryd.prog laidL W) : Go.Fx.Cub W := by
  rw [MakeChecks.laidMetH_plain _ _ _ (by kernel_rfl)] at h
  obtain ⟨ps, ⟨g0, t0, cs0, f0, p0, q0, hg0, ht0, hv0, hd0, _, _⟩, _, _⟩ := h
  obtain rfl := Option.some.inj (gCubes.symm.trans hg0)
  obtain rfl := Option.some.inj (tCubes.symm.trans ht0)
  have hcs : cs0.toList = Go.Fx.wvs Go.Fx.cubesL := by
    obtain ⟨xs, m1, _, hx1, hlen, hn3, hel⟩ := DataW.trod_array Go.Fx.U_a64_uint32 hd0
    have c1 : Tryd.prog.cellsOf Go.Fx.T_uint32 = 1 := by kernel_rfl
    have c64 : Tryd.prog.cellsOf Go.Fx.T_a64_uint32 = 64 := by kernel_rfl
    rw [c64] at hlen
    rw [c1] at hel
    have hd : (Rows.laid_flurry_sha_cubes : DataW Unit) = .agg (Go.Fx.cubesL.map fun x => .lit (.int .u32 x.toNat)) := by kernel_rfl
    rw [hd] at hx1
    simp only [Prod.mk.injEq, DataW.agg.injEq] at hx1
    apply List.ext_getElem?
    intro i
    by_cases hi : i < 64
    · have h1 := hel i hi
      have hx : xs[i]? = some (xs[i]'(by omega)) := List.getElem?_eq_getElem _
      rw [hx] at h1
      generalize xs[i]'(by omega) = y at *
      obtain ⟨k, e1, e2, _⟩ := DataW.trod_int Go.Fx.U_uint32 h1
      have h2 := congrArg (·[i]?) hx1.1
      simp only [List.getElem?_map, hx, e2, Option.map_some] at h2
      have h3 : cs0.toList[i]? = some (.int .u32 k) := by
        have : ((cs0.toList.drop (i * 1)).take 1)[0]? = some (.int .u32 k) := by rw [e1]; rfl
        rw [List.getElem?_take_of_lt (by omega), List.getElem?_drop, Nat.mul_one, Nat.add_zero] at this
        exact this
      rw [h3, Go.Fx.wvs, List.getElem?_map]
      cases hc : Go.Fx.cubesL[i]? with
      | none => rw [hc] at h2; cases h2
      | some z =>
        rw [hc] at h2
        simp only [Option.map_some, Option.some.injEq, DataW.lit.injEq, Lit.int.injEq, true_and] at h2
        rw [Option.map_some, ← h2]
        rfl
    · rw [List.getElem?_eq_none (by omega), List.getElem?_eq_none (by rw [Go.Fx.wvs, List.length_map]; show 64 ≤ i; omega)]
  have hv1 := hv0
  unfold World.var? at hv1
  rw [hg0] at hv1
  simp only [Option.bind_some] at hv1
  cases hh : W.heap[0]? with
  | none => rw [hh] at hv1; cases hv1
  | some o =>
    rw [hh] at hv1
    cases o with
    | cells cs t fr =>
      simp only [Option.some.injEq] at hv1
      subst hv1
      refine ⟨t, fr, ?_⟩
      rw [hh]
      have : cs = (Go.Fx.wvs Go.Fx.cubesL).toArray := by apply Array.ext'; simpa using hcs
      rw [this]
    | _ => cases hv1
end Go.Proofs.YticmbeincpaaeaaDoor
