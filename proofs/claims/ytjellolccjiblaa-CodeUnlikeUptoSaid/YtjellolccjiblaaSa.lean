import Derived.Test.YtjellolccjiblaaKb
import Derived.IntWalk
namespace Go.Proofs.Ytjellolccjiblaa
open Go.RowKit
open YtjellolccjiblaaW.PrintWords (rd)
open PCodeUnlike

theorem wrap_small (x : Int) (h0 : -9223372036854775808 ≤ x) (h1 : x ≤ 9223372036854775807) : wrap64 x = x := Go.IntWalk.wrap64_in x ⟨h0, h1⟩

theorem same_l0 (l0 l1 : List Int) (hl : l0.length = l1.length) (hb : l0.length ≤ 9223372036854775806) : ∀ (n i : Nat) (k : Nat), i + n = l0.length → n + 1 ≤ k → slipwayref11_Same.l0 k l0 l1 (i : Int) = some (decide (l0.drop i = l1.drop i))
  | 0, i, k + 1, h, _ => by
    rw [slipwayref11_Same.l0, if_neg (by omega)]
    rw [List.drop_eq_nil_of_le (by omega), List.drop_eq_nil_of_le (by omega)]
    simp
  | n + 1, i, k + 1, h, hk => by
    rw [slipwayref11_Same.l0, if_pos (by omega), if_pos (by omega), if_pos (by omega)]
    have e0 : l0.drop i = rd l0 i :: l0.drop (i + 1) := by
      rw [List.drop_eq_getElem_cons (by omega)]
      simp [rd, List.getElem?_eq_getElem (show i < l0.length by omega)]
    have e1 : l1.drop i = rd l1 i :: l1.drop (i + 1) := by
      rw [List.drop_eq_getElem_cons (by omega)]
      simp [rd, List.getElem?_eq_getElem (show i < l1.length by omega)]
    have hw : wrap64 ((i : Int) + 1) = ((i + 1 : Nat) : Int) := by
      rw [wrap_small _ (by omega) (by omega)]
      simp
    rw [hw, same_l0 l0 l1 hl hb n (i + 1) k (by omega) (by omega), e0, e1]
    by_cases hr : rd l0 i = rd l1 i
    · rw [if_pos hr]; simp [hr]
    · rw [if_neg hr]; simp [hr]

theorem same_law (l0 l1 : List Int) (hb : l0.length ≤ 9223372036854775806) : slipwayref11_Same.f (l0.length + 1) l0 l1 = some (decide (l0 = l1)) := by
  unfold slipwayref11_Same.f
  by_cases h : (l0.length : Int) = (l1.length : Int)
  · rw [if_pos h]
    have := same_l0 l0 l1 (by omega) hb l0.length 0 (l0.length + 1) (by omega) (by omega)
    simpa using this
  · rw [if_neg h]
    have : l0 ≠ l1 := fun e => h (by rw [e])
    simp [this]
end Go.Proofs.Ytjellolccjiblaa
