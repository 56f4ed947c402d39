import Derived.Test.YtjellolccjiblaaKb
namespace Go.Proofs.Ytjellolccjiblaa.PCodeUnlike
open Go.RowKit Go.Proofs.YtjellolccjiblaaW.PrintWords Go.Proofs.YtjellolccjiblaaW.PrintLast Go.Proofs.YtjellolccjiblaaW.PrintMore
attribute [local go_sem] max2_int min2_int max_two min_two max_three min_three max_four min_four   -- for this text's walks alone
set_option linter.unusedVariables false
set_option linter.unusedSimpArgs false

/-! ### slipwaymade_Catalog: function 5 -/
mutual
def slipwaymade_Catalog.l0 : Nat → List (S44) → Int → Int → List (S47) → Option ((List (S47)) × Bool)
  | 0, _, _, _, _ => none
  | k + 1, x21, x22, x23, x129000 => if x23 < x22 then (if 0 ≤ x23 then (if x23 < (x21.length : Int) then (if (((rd_T44 x21 x23).f0).size : Int) > 100 then (slipwaymade_Catalog.j1 k x21 x22 x23 true x129000 ((rd_T44 x21 x23).f0) ((rd_T44 x21 x23).f1) ((rd_T44 x21 x23).f0)) else (slipwaymade_Catalog.j1 k x21 x22 x23 (decide ((((rd_T44 x21 x23).f1).length : Int) > 16)) x129000 ((rd_T44 x21 x23).f0) ((rd_T44 x21 x23).f1) ((rd_T44 x21 x23).f0))) else (none)) else (none)) else (some (x129000, true))
def slipwaymade_Catalog.j1 : Nat → List (S44) → Int → Int → Bool → List (S47) → ByteArray → List (S52) → ByteArray → Option ((List (S47)) × Bool)
  | 0, _, _, _, _, _, _, _, _ => none
  | k + 1, x21, x22, x23, x39, x129000, x131000, x131001, x132000 => if x39 = true then (some (x129000, false)) else (slipwaymade_Catalog.l1 k x21 x22 x23 x131001 (x131001.length : Int) 0 x129000 x132000 ([] : List (S56)))
def slipwaymade_Catalog.l1 : Nat → List (S44) → Int → Int → List (S52) → Int → Int → List (S47) → ByteArray → List (S56) → Option ((List (S47)) × Bool)
  | 0, _, _, _, _, _, _, _, _, _ => none
  | k + 1, x21, x22, x23, x42, x43, x44, x129000, x132000, x132001 => if x44 < x43 then (if 0 ≤ x44 then (if x44 < (x42.length : Int) then (if (((rd_T52 x42 x44).f2).length : Int) > 12 then (slipwaymade_Catalog.j3 k x21 x22 x23 x42 x43 x44 true x129000 x132000 x132001 ((rd_T52 x42 x44).f0.f0) ((rd_T52 x42 x44).f0.f1) ((rd_T52 x42 x44).f0.f2) ((rd_T52 x42 x44).f0.f3) ((rd_T52 x42 x44).f1) ((rd_T52 x42 x44).f2) ((rd_T52 x42 x44).f0.f0) ((rd_T52 x42 x44).f0.f1) ((rd_T52 x42 x44).f0.f2) ((rd_T52 x42 x44).f0.f3) ((rd_T52 x42 x44).f1)) else (slipwaymade_Catalog.j3 k x21 x22 x23 x42 x43 x44 (decide ((((rd_T52 x42 x44).f0.f3).size : Int) > 100)) x129000 x132000 x132001 ((rd_T52 x42 x44).f0.f0) ((rd_T52 x42 x44).f0.f1) ((rd_T52 x42 x44).f0.f2) ((rd_T52 x42 x44).f0.f3) ((rd_T52 x42 x44).f1) ((rd_T52 x42 x44).f2) ((rd_T52 x42 x44).f0.f0) ((rd_T52 x42 x44).f0.f1) ((rd_T52 x42 x44).f0.f2) ((rd_T52 x42 x44).f0.f3) ((rd_T52 x42 x44).f1))) else (none)) else (none)) else (if x129000.length < 3518437208883 then (slipwaymade_Catalog.l0 k x21 x22 (wrap64 (x23 + 1)) (x129000 ++ [(⟨x132000, x132001⟩ : S47)])) else (none))
def slipwaymade_Catalog.j3 : Nat → List (S44) → Int → Int → List (S52) → Int → Int → Bool → List (S47) → ByteArray → List (S56) → Int → Int → Int → ByteArray → Int → List (S61) → Int → Int → Int → ByteArray → Int → Option ((List (S47)) × Bool)
  | 0, _, _, _, _, _, _, _, _, _, _, _, _, _, _, _, _, _, _, _, _, _ => none
  | k + 1, x21, x22, x23, x42, x43, x44, x63, x129000, x132000, x132001, x137000, x137001, x137002, x137003, x137004, x137005, x138000, x138001, x138002, x138003, x138004 => if x63 = true then (some (x129000, false)) else (slipwaymade_Catalog.l2 k x21 x22 x23 x42 x43 x44 x137005 (x137005.length : Int) 0 x129000 x132000 x132001 x138000 x138001 x138002 x138003 x138004 ([] : List (S68)))
def slipwaymade_Catalog.l2 : Nat → List (S44) → Int → Int → List (S52) → Int → Int → List (S61) → Int → Int → List (S47) → ByteArray → List (S56) → Int → Int → Int → ByteArray → Int → List (S68) → Option ((List (S47)) × Bool)
  | 0, _, _, _, _, _, _, _, _, _, _, _, _, _, _, _, _, _, _ => none
  | k + 1, x21, x22, x23, x42, x43, x44, x66, x67, x68, x129000, x132000, x132001, x138000, x138001, x138002, x138003, x138004, x138005 => if x68 < x67 then (if 0 ≤ x68 then (if x68 < (x66.length : Int) then ((slipwaymade_Range.f k ((rd_T61 x66 x68).f1.f0)).bind fun bt140 => (if bt140.2 = true then (if x138005.length < 4398046511104 then (slipwaymade_Catalog.l2 k x21 x22 x23 x42 x43 x44 x66 x67 (wrap64 (x68 + 1)) x129000 x132000 x132001 x138000 x138001 x138002 x138003 x138004 (x138005 ++ [(⟨(rd_T61 x66 x68).f0, (⟨bt140.1⟩ : S64)⟩ : S68)])) else (none)) else (some (x129000, false)))) else (none)) else (none)) else (if x132001.length < 1954687338268 then (slipwaymade_Catalog.l1 k x21 x22 x23 x42 x43 (wrap64 (x44 + 1)) x129000 x132000 (x132001 ++ [(⟨(⟨x138000, x138001, x138002, x138003⟩ : S53), x138004, x138005⟩ : S56)])) else (none))
end
def slipwaymade_Catalog.f (k : Nat) (l0_0 : List (S44)) : Option ((List (S47)) × Bool) := if (l0_0.length : Int) > 16 then (some (([] : List (S47)), false)) else (slipwaymade_Catalog.l0 k l0_0 (l0_0.length : Int) 0 ([] : List (S47)))
theorem slipwaymade_Catalog.mono_l : ∀ k, (∀ y0 y1 y2 y3, LeO (slipwaymade_Catalog.l0 k y0 y1 y2 y3) (slipwaymade_Catalog.l0 (k + 1) y0 y1 y2 y3)) ∧ (∀ y0 y1 y2 y3 y4 y5 y6 y7, LeO (slipwaymade_Catalog.j1 k y0 y1 y2 y3 y4 y5 y6 y7) (slipwaymade_Catalog.j1 (k + 1) y0 y1 y2 y3 y4 y5 y6 y7)) ∧ (∀ y0 y1 y2 y3 y4 y5 y6 y7 y8, LeO (slipwaymade_Catalog.l1 k y0 y1 y2 y3 y4 y5 y6 y7 y8) (slipwaymade_Catalog.l1 (k + 1) y0 y1 y2 y3 y4 y5 y6 y7 y8)) ∧ (∀ y0 y1 y2 y3 y4 y5 y6 y7 y8 y9 y10 y11 y12 y13 y14 y15 y16 y17 y18 y19 y20, LeO (slipwaymade_Catalog.j3 k y0 y1 y2 y3 y4 y5 y6 y7 y8 y9 y10 y11 y12 y13 y14 y15 y16 y17 y18 y19 y20) (slipwaymade_Catalog.j3 (k + 1) y0 y1 y2 y3 y4 y5 y6 y7 y8 y9 y10 y11 y12 y13 y14 y15 y16 y17 y18 y19 y20)) ∧ (∀ y0 y1 y2 y3 y4 y5 y6 y7 y8 y9 y10 y11 y12 y13 y14 y15 y16 y17, LeO (slipwaymade_Catalog.l2 k y0 y1 y2 y3 y4 y5 y6 y7 y8 y9 y10 y11 y12 y13 y14 y15 y16 y17) (slipwaymade_Catalog.l2 (k + 1) y0 y1 y2 y3 y4 y5 y6 y7 y8 y9 y10 y11 y12 y13 y14 y15 y16 y17))
  | 0 => ⟨fun _ _ _ _ r h => by simp [slipwaymade_Catalog.l0] at h, fun _ _ _ _ _ _ _ _ r h => by simp [slipwaymade_Catalog.j1] at h, fun _ _ _ _ _ _ _ _ _ r h => by simp [slipwaymade_Catalog.l1] at h, fun _ _ _ _ _ _ _ _ _ _ _ _ _ _ _ _ _ _ _ _ _ r h => by simp [slipwaymade_Catalog.j3] at h, fun _ _ _ _ _ _ _ _ _ _ _ _ _ _ _ _ _ _ r h => by simp [slipwaymade_Catalog.l2] at h⟩
  | k + 1 => by
    obtain ⟨ih0, ih1, ih2, ih3, ih4⟩ := slipwaymade_Catalog.mono_l k
    refine ⟨?_, ?_, ?_, ?_, ?_⟩
    · intro y0 y1 y2 y3
      unfold slipwaymade_Catalog.l0
      repeat' first
      | (with_reducible exact ih0 _ _ _ _)
      | (with_reducible exact ih1 _ _ _ _ _ _ _ _)
      | (with_reducible exact ih2 _ _ _ _ _ _ _ _ _)
      | (with_reducible exact ih3 _ _ _ _ _ _ _ _ _ _ _ _ _ _ _ _ _ _ _ _ _)
      | (with_reducible exact ih4 _ _ _ _ _ _ _ _ _ _ _ _ _ _ _ _ _ _)
      | (with_reducible exact slipwaymade_Range.mono _ _)
      | (with_reducible exact LeO.refl _)
      | (with_reducible exact LeO.none _)
      | (with_reducible refine LeO.ite ?_ ?_)
      | (with_reducible refine LeO.bind ?_ (fun _ => ?_))
      | exact ih0 _ _ _ _
      | exact ih1 _ _ _ _ _ _ _ _
      | exact ih2 _ _ _ _ _ _ _ _ _
      | exact ih3 _ _ _ _ _ _ _ _ _ _ _ _ _ _ _ _ _ _ _ _ _
      | exact ih4 _ _ _ _ _ _ _ _ _ _ _ _ _ _ _ _ _ _
      | exact slipwaymade_Range.mono _ _
      | exact LeO.none _
      | refine LeO.ite ?_ ?_
      | refine LeO.bind ?_ (fun _ => ?_)
    · intro y0 y1 y2 y3 y4 y5 y6 y7
      unfold slipwaymade_Catalog.j1
      repeat' first
      | (with_reducible exact ih0 _ _ _ _)
      | (with_reducible exact ih1 _ _ _ _ _ _ _ _)
      | (with_reducible exact ih2 _ _ _ _ _ _ _ _ _)
      | (with_reducible exact ih3 _ _ _ _ _ _ _ _ _ _ _ _ _ _ _ _ _ _ _ _ _)
      | (with_reducible exact ih4 _ _ _ _ _ _ _ _ _ _ _ _ _ _ _ _ _ _)
      | (with_reducible exact slipwaymade_Range.mono _ _)
      | (with_reducible exact LeO.refl _)
      | (with_reducible exact LeO.none _)
      | (with_reducible refine LeO.ite ?_ ?_)
      | (with_reducible refine LeO.bind ?_ (fun _ => ?_))
      | exact ih0 _ _ _ _
      | exact ih1 _ _ _ _ _ _ _ _
      | exact ih2 _ _ _ _ _ _ _ _ _
      | exact ih3 _ _ _ _ _ _ _ _ _ _ _ _ _ _ _ _ _ _ _ _ _
      | exact ih4 _ _ _ _ _ _ _ _ _ _ _ _ _ _ _ _ _ _
      | exact slipwaymade_Range.mono _ _
      | exact LeO.none _
      | refine LeO.ite ?_ ?_
      | refine LeO.bind ?_ (fun _ => ?_)
    · intro y0 y1 y2 y3 y4 y5 y6 y7 y8
      unfold slipwaymade_Catalog.l1
      repeat' first
      | (with_reducible exact ih0 _ _ _ _)
      | (with_reducible exact ih1 _ _ _ _ _ _ _ _)
      | (with_reducible exact ih2 _ _ _ _ _ _ _ _ _)
      | (with_reducible exact ih3 _ _ _ _ _ _ _ _ _ _ _ _ _ _ _ _ _ _ _ _ _)
      | (with_reducible exact ih4 _ _ _ _ _ _ _ _ _ _ _ _ _ _ _ _ _ _)
      | (with_reducible exact slipwaymade_Range.mono _ _)
      | (with_reducible exact LeO.refl _)
      | (with_reducible exact LeO.none _)
      | (with_reducible refine LeO.ite ?_ ?_)
      | (with_reducible refine LeO.bind ?_ (fun _ => ?_))
      | exact ih0 _ _ _ _
      | exact ih1 _ _ _ _ _ _ _ _
      | exact ih2 _ _ _ _ _ _ _ _ _
      | exact ih3 _ _ _ _ _ _ _ _ _ _ _ _ _ _ _ _ _ _ _ _ _
      | exact ih4 _ _ _ _ _ _ _ _ _ _ _ _ _ _ _ _ _ _
      | exact slipwaymade_Range.mono _ _
      | exact LeO.none _
      | refine LeO.ite ?_ ?_
      | refine LeO.bind ?_ (fun _ => ?_)
    · intro y0 y1 y2 y3 y4 y5 y6 y7 y8 y9 y10 y11 y12 y13 y14 y15 y16 y17 y18 y19 y20
      unfold slipwaymade_Catalog.j3
      repeat' first
      | (with_reducible exact ih0 _ _ _ _)
      | (with_reducible exact ih1 _ _ _ _ _ _ _ _)
      | (with_reducible exact ih2 _ _ _ _ _ _ _ _ _)
      | (with_reducible exact ih3 _ _ _ _ _ _ _ _ _ _ _ _ _ _ _ _ _ _ _ _ _)
      | (with_reducible exact ih4 _ _ _ _ _ _ _ _ _ _ _ _ _ _ _ _ _ _)
      | (with_reducible exact slipwaymade_Range.mono _ _)
      | (with_reducible exact LeO.refl _)
      | (with_reducible exact LeO.none _)
      | (with_reducible refine LeO.ite ?_ ?_)
      | (with_reducible refine LeO.bind ?_ (fun _ => ?_))
      | exact ih0 _ _ _ _
      | exact ih1 _ _ _ _ _ _ _ _
      | exact ih2 _ _ _ _ _ _ _ _ _
      | exact ih3 _ _ _ _ _ _ _ _ _ _ _ _ _ _ _ _ _ _ _ _ _
      | exact ih4 _ _ _ _ _ _ _ _ _ _ _ _ _ _ _ _ _ _
      | exact slipwaymade_Range.mono _ _
      | exact LeO.none _
      | refine LeO.ite ?_ ?_
      | refine LeO.bind ?_ (fun _ => ?_)
    · intro y0 y1 y2 y3 y4 y5 y6 y7 y8 y9 y10 y11 y12 y13 y14 y15 y16 y17
      unfold slipwaymade_Catalog.l2
      repeat' first
      | (with_reducible exact ih0 _ _ _ _)
      | (with_reducible exact ih1 _ _ _ _ _ _ _ _)
      | (with_reducible exact ih2 _ _ _ _ _ _ _ _ _)
      | (with_reducible exact ih3 _ _ _ _ _ _ _ _ _ _ _ _ _ _ _ _ _ _ _ _ _)
      | (with_reducible exact ih4 _ _ _ _ _ _ _ _ _ _ _ _ _ _ _ _ _ _)
      | (with_reducible exact slipwaymade_Range.mono _ _)
      | (with_reducible exact LeO.refl _)
      | (with_reducible exact LeO.none _)
      | (with_reducible refine LeO.ite ?_ ?_)
      | (with_reducible refine LeO.bind ?_ (fun _ => ?_))
      | exact ih0 _ _ _ _
      | exact ih1 _ _ _ _ _ _ _ _
      | exact ih2 _ _ _ _ _ _ _ _ _
      | exact ih3 _ _ _ _ _ _ _ _ _ _ _ _ _ _ _ _ _ _ _ _ _
      | exact ih4 _ _ _ _ _ _ _ _ _ _ _ _ _ _ _ _ _ _
      | exact slipwaymade_Range.mono _ _
      | exact LeO.none _
      | refine LeO.ite ?_ ?_
      | refine LeO.bind ?_ (fun _ => ?_)
theorem slipwaymade_Catalog.mono : ∀ a0 k, LeO (slipwaymade_Catalog.f k a0) (slipwaymade_Catalog.f (k + 1) a0) := by
  intro a0 k
  obtain ⟨ih0, ih1, ih2, ih3, ih4⟩ := slipwaymade_Catalog.mono_l k
  unfold slipwaymade_Catalog.f
  repeat' first
      | (with_reducible exact ih0 _ _ _ _)
      | (with_reducible exact ih1 _ _ _ _ _ _ _ _)
      | (with_reducible exact ih2 _ _ _ _ _ _ _ _ _)
      | (with_reducible exact ih3 _ _ _ _ _ _ _ _ _ _ _ _ _ _ _ _ _ _ _ _ _)
      | (with_reducible exact ih4 _ _ _ _ _ _ _ _ _ _ _ _ _ _ _ _ _ _)
      | (with_reducible exact slipwaymade_Range.mono _ _)
      | (with_reducible exact LeO.refl _)
      | (with_reducible exact LeO.none _)
      | (with_reducible refine LeO.ite ?_ ?_)
      | (with_reducible refine LeO.bind ?_ (fun _ => ?_))
      | exact ih0 _ _ _ _
      | exact ih1 _ _ _ _ _ _ _ _
      | exact ih2 _ _ _ _ _ _ _ _ _
      | exact ih3 _ _ _ _ _ _ _ _ _ _ _ _ _ _ _ _ _ _ _ _ _
      | exact ih4 _ _ _ _ _ _ _ _ _ _ _ _ _ _ _ _ _ _
      | exact slipwaymade_Range.mono _ _
      | exact LeO.none _
      | refine LeO.ite ?_ ?_
      | refine LeO.bind ?_ (fun _ => ?_)

end Go.Proofs.Ytjellolccjiblaa.PCodeUnlike
