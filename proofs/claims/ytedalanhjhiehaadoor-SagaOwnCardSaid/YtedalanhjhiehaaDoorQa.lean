import Derived.Test.YtedalanhjhiehaaDoorBa
namespace Go.Proofs.YtedalanhjhiehaaDoor
open Go.RowKit

theorem last_any (a b : Int) (w : World) : Calls Tryd.prog 23 #[.agg #[.int .i64 a, .int .i64 b]] w (Ret w (.bool (b == 3))) := by
  go_enter Tryd.func23, Tryd.ntmps23
  go_wp2
  go_ret
  exact ⟨rfl, (Below.refl _ _).alloc (Nat.le_refl _) _⟩

theorem begins1_any (a b : Int) (w : World) : Calls Tryd.prog 40 #[.agg #[.int .i64 a, .int .i64 b]] w (Ret w (.bool (decide (b < 1) || decide (3 < b)))) := by
  by_cases h : b < 1
  all_goals
    go_enter Tryd.func40, Tryd.ntmps40
    go_wp2
    go_ret
    exact ⟨ret_bool (by simp [h] <;> omega), (Below.refl _ _).alloc (Nat.le_refl _) _⟩

def steppedB (k : Int) : Bool := (decide (2 ≤ k) && decide (k ≤ 4)) || k == 6
theorem stepped_any (k : Int) (w : World) : Calls Tryd.prog 28 #[.int .i64 k] w (fun e w' => e = .returned (.bool (steppedB k)) ∧ w = w') := by
  by_cases h : 2 ≤ k <;> by_cases h2 : k ≤ 4
  all_goals
    go_enter Tryd.func28, Tryd.ntmps28
    go_wp2
    go_ret
    exact ⟨ret_bool (by simp [steppedB, h, h2] <;> omega), rfl⟩

def whenB (k p : Int) : Bool :=
  if k = 1 then p == 0 || p == 4 || p == 5
  else if k = 2 ∨ k = 3 then p == 1 || p == 3
  else if k = 4 ∨ k = 5 ∨ k = 7 then p == 1
  else if k = 6 then p == 2
  else p == 3 || p == 2
theorem when_any (k p : Int) (w : World) : Calls Tryd.prog 18 #[.int .i64 k, .int .i64 p] w (fun e w' => e = .returned (.bool (whenB k p)) ∧ w = w') := by
  have hk : k = 1 ∨ k = 2 ∨ k = 3 ∨ k = 4 ∨ k = 5 ∨ k = 7 ∨ k = 6 ∨ (¬ k = 1 ∧ ¬ k = 2 ∧ ¬ k = 3 ∧ ¬ k = 4 ∧ ¬ k = 5 ∧ ¬ k = 7 ∧ ¬ k = 6) := by omega
  by_cases h1 : p = 0 <;> by_cases h2 : p = 4 <;> by_cases h3 : p = 1 <;> by_cases h4 : p = 3
  all_goals first
    | omega
    | (rcases hk with rfl | rfl | rfl | rfl | rfl | rfl | rfl | ⟨g1, g2, g3, g4, g5, g6, g7⟩ <;>
        (go_enter Tryd.func18, Tryd.ntmps18
         go_wp2
         go_ret
         exact ⟨ret_bool (by simp [whenB, *]), rfl⟩))
end Go.Proofs.YtedalanhjhiehaaDoor
