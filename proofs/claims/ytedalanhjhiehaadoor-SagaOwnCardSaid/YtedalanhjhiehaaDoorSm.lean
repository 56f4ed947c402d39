import Derived.Test.YtedalanhjhiehaaDoorSl
import Derived.ProofKit
import Derived.LaidLaws
set_option linter.unusedVariables false
namespace Go.Proofs.YtedalanhjhiehaaDoor
open Go.ChangeShapes Go.WideShapes Go.ChangeAt Go.RowKit
set_option maxRecDepth 100000

theorem gTab : Tryd.prog.globalNamed "math/bits.deBruijn64tab" = some 0 := by kernel_rfl
theorem gTabType : (Tryd.prog.globals[0]?).map (·.type) = some 88 := by kernel_rfl
theorem list_map {H : Type} : (Rows.laid_math_bits_deBruijn64tab : DataW H) = .agg (Lib.deBruijn64tab.map fun (n : Nat) => .lit (.int .u8 (n : Int))) := rfl
theorem tab_of_laid {W : World} (h : laidMet Tryd.prog [("math/bits.deBruijn64tab", Rows.laid_math_bits_deBruijn64tab)] W) : Tab W := by
  obtain ⟨ps, ⟨g, t, cs, fuel, p, q, hg, ht, hvar, hd, _, _⟩, _⟩ := h
  obtain rfl := Option.some.inj (gTab.symm.trans hg)
  obtain rfl := Option.some.inj (gTabType.symm.trans ht)
  rw [list_map] at hd
  obtain ⟨xs, m, rfl, hx, hl, hxl, hf⟩ := DataW.trod_array Tryd.underlying88 hd
  intro j hj
  have hy := List.getElem?_eq_getElem (l := xs) (i := j) (by omega)
  have h1 := (hf j hj).trans hy
  obtain ⟨n, h2, h3, _⟩ := DataW.trod_int Tryd.underlying5 h1
  have c5 : Tryd.prog.cellsOf 5 = 1 := by kernel_rfl
  rw [c5, Nat.mul_one] at h2
  have hc : cs[j]? = some (.int .u8 n) := by
    have h4 : (cs.toList.drop j)[0]? = some (.int .u8 n) := by
      have h5 := congrArg (fun l => l[0]?) h2
      simpa [List.getElem?_take] using h5
    simpa using h4
  injection hx with hx1 hx2
  injection hx1 with hx1
  have h6 := congrArg (fun l => l[j]?) hx1
  have hlen : j < Lib.deBruijn64tab.length := hj
  simp only [List.getElem?_map, hy, h3, Option.map_some, List.getElem?_eq_getElem hlen] at h6
  injection h6 with h6
  injection h6 with h6
  injection h6 with _ h6
  have h7 := World.var?_cell hg hvar j
  rw [h7, hc, List.getD_eq_getElem?_getD, List.getElem?_eq_getElem hlen, ← h6]
  rfl
end Go.Proofs.YtedalanhjhiehaaDoor
