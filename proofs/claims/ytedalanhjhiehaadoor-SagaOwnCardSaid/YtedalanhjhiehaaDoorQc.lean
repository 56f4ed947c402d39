import Derived.Test.YtedalanhjhiehaaDoorQb
namespace Go.Proofs.YtedalanhjhiehaaDoor
open Go.RowKit

/-- is it among them? -/
def hasB (xs : List Int) (v : Int) : Bool := decide (v ∈ xs)
def IdxPost (b : Bool) (w : World) (e : Ending) (w' : World) : Prop := ∃ i : Int, e = .returned (.int .i64 i) ∧ w = w' ∧ decide (0 ≤ i) = b
theorem idx_yes {xs : List Int} {v : Int} {k : Nat} {w : World} (hk : k < xs.length) (h : v = xs[k]) : IdxPost (hasB xs v) w (.returned (.int .i64 k)) w :=
  ⟨k, rfl, rfl, by rw [h]; simp [hasB]⟩
theorem idx_no {xs : List Int} {v : Int} {w : World} (h : ∀ j (hj : j < xs.length), v ≠ xs[j]) : IdxPost (hasB xs v) w (.returned (.int .i64 (-1))) w :=
  ⟨-1, rfl, rfl, by
    have : ¬ v ∈ xs := fun hm => by
      obtain ⟨j, hj, e⟩ := List.mem_iff_getElem.1 hm
      exact h j hj e.symm
    simp [hasB, this]⟩

theorem index_any (s : SL) (xs : List Int) (v : Int) (w : World) (h : RdI w s xs) (hl : xs.length ≤ 140737488351232) :
    Calls Tryd.prog 35 #[s.v xs.length, .int .i64 v] w (IdxPost (hasB xs v) w) := by
  have H := Lib.hid h
  clear h
  unfold SL.v
  go_enter Tryd.func35, Tryd.ntmps35
  go_wp2
  go_loop [8] (fun i => ∃ k : Nat, k ≤ xs.length ∧ i = .int .i64 k ∧ Hid (∀ j (hj : j < xs.length), j < k → v ≠ xs[j])) (fun i => xs.length - (intOf i).toNat)
  case atStart => exact ⟨0, Nat.zero_le _, rfl, Lib.hid (fun j _ h => absurd h (Nat.not_lt_zero _))⟩
  case round =>
    obtain ⟨k, hk, rfl, hall⟩ := hrel
    by_cases hlt : k < xs.length
    · obtain ⟨ad, he, hc⟩ := H.out.at_ k hlt
      by_cases hv : v = xs[k]
      · have HY := Lib.hid (idx_yes (w := w) hlt hv)
        have hd : (v == xs[k]) = true := by simp [hv]
        clear hv
        go_wp2
        go_ret
        exact HY.out
      · have HN : Hid (∀ j (hj : j < xs.length), j < k + 1 → v ≠ xs[j]) := Lib.hid (fun j hj h => by
          by_cases e : j = k
          · subst e; exact hv
          · exact hall.out j hj (by omega))
        have hd : (v == xs[k]) = false := by simp [hv]
        clear hv hall
        go_wp2
        go_round
        case rel => exact ⟨k + 1, by omega, by go_num, HN⟩
        case measure => simp [intOf]; omega
    · have HN := Lib.hid (idx_no (w := w) (v := v) (xs := xs) (fun j hj => hall.out j hj (by omega)))
      clear hall
      go_wp2
      go_ret
      exact HN.out
theorem contains_any (s : SL) (xs : List Int) (v : Int) (w : World) (h : RdI w s xs) (hl : xs.length ≤ 140737488351232) :
    Calls Tryd.prog 24 #[s.v xs.length, .int .i64 v] w (fun e w' => e = .returned (.bool (hasB xs v)) ∧ w = w') := by
  have HI := Lib.hid (index_any s xs v w h hl)
  clear h hl
  unfold SL.v at *
  go_enter Tryd.func24, Tryd.ntmps24
  go_wp2_with (go_at_call 35; refine HI.out.mono ?_; rintro e w' ⟨i, rfl, rfl, hi⟩)
  go_ret
  exact ⟨rfl, rfl⟩
end Go.Proofs.YtedalanhjhiehaaDoor
