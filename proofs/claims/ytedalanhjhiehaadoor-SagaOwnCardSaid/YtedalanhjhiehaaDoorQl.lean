import Derived.Test.YtedalanhjhiehaaDoorQk
set_option linter.unusedSimpArgs false
namespace Go.Proofs.YtedalanhjhiehaaDoor
open Go.RowKit
open YtedalanhjhiehaaDoorW.PrintWords (nums ReadsInt rd own_slice own_typed Kd)

theorem most2 (k k' : IntKind) (x y : Int) : Builtin.max2 (.int k x) (.int k' y) = pure (.int k (if x < y then y else x)) := by simp only [Builtin.max2, gt_iff_lt]
theorem least2 (k k' : IntKind) (x y : Int) : Builtin.min2 (.int k x) (.int k' y) = pure (.int k (if y < x then y else x)) := by simp only [Builtin.min2]
theorem most_of (ats : Array TypeId) (ty : TypeId) (a b : Value) : Builtin.max_ ats ty #[a, b] = (Builtin.max2 a b >>= fun s => pure s) := by simp only [Builtin.max_, List.foldlM_cons, List.foldlM_nil]
theorem least_of (ats : Array TypeId) (ty : TypeId) (a b : Value) : Builtin.min_ ats ty #[a, b] = (Builtin.min2 a b >>= fun s => pure s) := by simp only [Builtin.min_, List.foldlM_cons, List.foldlM_nil]
attribute [local go_sem] most2 least2 most_of least_of

/-- an edge between two of n nodes -/
def okE (n : Nat) (x : Int × Int) : Bool := decide (0 ≤ x.1) && decide (0 ≤ x.2) && decide (x.1 < n) && decide (x.2 < n)
def checkB (n : Nat) (xs : List (Int × Int)) : Bool := decide (n ≤ 64) && xs.all (okE n)
def errOf (b : Bool) (e : Int) : Int := if b then 0 else e
theorem check_no {n : Nat} {xs : List (Int × Int)} {k : Nat} (hk : k < xs.length) (h : okE n xs[k] = false) : checkB n xs = false := by
  have : xs.all (okE n) = false := by
    rw [List.all_eq_false]
    exact ⟨_, List.getElem_mem hk, by simp [h]⟩
  simp [checkB, this]
theorem check_yes {n : Nat} {xs : List (Int × Int)} (hn : n ≤ 64) (h : ∀ j (hj : j < xs.length), okE n xs[j] = true) : checkB n xs = true := by
  have : xs.all (okE n) = true := by
    rw [List.all_eq_true]
    intro x hx
    obtain ⟨j, hj, rfl⟩ := List.mem_iff_getElem.1 hx
    exact h j hj
  simp [checkB, this, hn]

set_option maxHeartbeats 4000000 in
theorem check_any (n : Nat) (s : SL) (xs : List (Int × Int)) (w : World) (h : RdP w s xs) (hl : xs.length ≤ 1000) (hn : n ≤ 1000) :
    Calls Tryd.prog 42 #[graphV n s xs] w (Ret w (.int .i64 (errOf (checkB n xs) 20))) := by
  obtain ⟨A, cp⟩ := s
  obtain ⟨w2, hw2⟩ : ∃ w2, w2 = w.alloc (.cells #[.int .i64 n, .slice A xs.length cp] 76) := ⟨_, rfl⟩
  have hb2 : Below w.heap.size w w2 := by rw [hw2]; exact (Below.refl _ _).alloc (Nat.le_refl _) _
  have hc2 := heap_alloc_new w (.cells #[.int .i64 n, .slice A xs.length cp] 76)
  rw [← hw2] at hc2
  have c0 : w2.cell? ⟨w.heap.size, 0, none⟩ = some (.int .i64 n) := by rw [cell_at hc2]; rfl
  have c1 : w2.cell? ⟨w.heap.size, 1, none⟩ = some (.slice A xs.length cp) := by rw [cell_at hc2]; rfl
  have H := Lib.hid (h.below hb2)
  have HB2 := Lib.hid hb2
  have HC := Lib.hid (And.intro c0 c1)
  have hn0 : ¬ (n : Int) < 0 := by omega
  have hl0 : ¬ (4096 : Int) < (xs.length : Int) := by omega
  clear h hb2 hc2
  unfold graphV SL.v at *
  by_cases hn64 : n ≤ 64
  · have hn1 : ¬ (64 : Int) < (n : Int) := by omega
    go_enter Tryd.func42, Tryd.ntmps42
    go_wp2
    rw [← hw2]
    clear hw2
    go_loopw [22] (fun i wr => ∃ k : Nat, k ≤ xs.length ∧ i = .int .i64 k ∧ Hid (∀ j (hj : j < xs.length), j < k → okE n xs[j] = true) ∧ Hid (Below w2.heap.size w2 wr)) (fun i _ => xs.length - (intOf i).toNat)
    case atStart => exact ⟨0, Nat.zero_le _, rfl, Lib.hid (fun j _ h => absurd h (Nat.not_lt_zero _)), Lib.hid (Below.refl _ _)⟩
    case round =>
      obtain ⟨k, hk, rfl, hall, HB⟩ := hrel
      have HBB := Lib.hid (HB2.out.trans (HB.out.mono HB2.out.size))
      by_cases hlt : k < xs.length
      · obtain ⟨ad, he, g0, g1⟩ := (H.out.below HB.out).at_ k hlt
        obtain rfl : A = some ad := he
        have k0 := keep_cell HB.out HC.out.1
        have k0' : (wr.alloc (.cells #[.int .i64 xs[k].1, .int .i64 xs[k].2] 54)).cell? ⟨w.heap.size, 0, none⟩ = some (.int .i64 n) := keep_cell ((Below.refl _ _).alloc (Nat.le_refl _) _) k0
        clear c0 c1
        rcases hok : okE n xs[k] with _ | _
        · have HR := Lib.hid (check_no hlt hok)
          clear hall
          simp only [okE, Bool.and_eq_false_iff, decide_eq_false_iff_not] at hok
          rcases (by omega : xs[k].2 < xs[k].1 ∨ xs[k].1 ≤ xs[k].2) with ho | ho
          · by_cases h1 : xs[k].2 < 0
            · clear hok
              go_wp2
              go_ret
              exact ⟨by rw [HR.out]; rfl, HBB.out.trans (((Below.refl _ _).alloc (Nat.le_refl _) _).mono HBB.out.size)⟩
            · have h2 : (n : Int) ≤ xs[k].1 := by omega
              clear hok
              go_wp2
              go_ret
              exact ⟨by rw [HR.out]; rfl, HBB.out.trans (((Below.refl _ _).alloc (Nat.le_refl _) _).mono HBB.out.size)⟩
          · by_cases h1 : xs[k].1 < 0
            · clear hok
              go_wp2
              go_ret
              exact ⟨by rw [HR.out]; rfl, HBB.out.trans (((Below.refl _ _).alloc (Nat.le_refl _) _).mono HBB.out.size)⟩
            · have h2 : (n : Int) ≤ xs[k].2 := by omega
              clear hok
              go_wp2
              all_goals
                go_ret
                exact ⟨by rw [HR.out]; rfl, HBB.out.trans (((Below.refl _ _).alloc (Nat.le_refl _) _).mono HBB.out.size)⟩
        · have HN : Hid (∀ j (hj : j < xs.length), j < k + 1 → okE n xs[j] = true) := Lib.hid (fun j hj h => by
            by_cases e : j = k
            · subst e; exact hok
            · exact hall.out j hj (by omega))
          have HW : Hid (Below w2.heap.size w2 (wr.alloc (.cells #[.int .i64 xs[k].1, .int .i64 xs[k].2] 54))) := Lib.hid (HB.out.alloc HB.out.size _)
          clear hall
          simp only [okE, Bool.and_eq_true, decide_eq_true_eq] at hok
          obtain ⟨⟨⟨h1, h2⟩, h3⟩, h4⟩ := hok
          rcases (by omega : xs[k].2 < xs[k].1 ∨ xs[k].1 ≤ xs[k].2) with ho | ho
          all_goals
            go_wp2
            all_goals
              go_roundw
              case rel => exact ⟨k + 1, by omega, by go_num, HN, HW⟩
              case measure => simp [intOf]; omega
      · have HR := Lib.hid (check_yes (n := n) (xs := xs) hn64 (fun j hj => hall.out j hj (by omega)))
        clear hall
        go_wp2
        go_ret
        exact ⟨by rw [HR.out]; rfl, HBB.out⟩
  · have hn1 : (64 : Int) < (n : Int) := by omega
    have HR : Hid (checkB n xs = false) := Lib.hid (by simp [checkB, hn64])
    go_enter Tryd.func42, Tryd.ntmps42
    go_wp2
    rw [← hw2]
    go_ret
    exact ⟨by rw [HR.out]; rfl, HB2.out⟩
end Go.Proofs.YtedalanhjhiehaaDoor
