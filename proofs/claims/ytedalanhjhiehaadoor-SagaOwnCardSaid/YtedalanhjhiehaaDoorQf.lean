import Derived.Test.YtedalanhjhiehaaDoorQe
import Derived.Lib.SliceRun
namespace Go.Proofs.YtedalanhjhiehaaDoor
open Go.RowKit
open YtedalanhjhiehaaDoorW.PrintWords (nums ReadsInt rd own_slice own_typed Kd)

theorem drop1_any (k st : Int) (P : Nat) (w : World) (hP : w.cell? ⟨P, 0, none⟩ = some (.int .i64 st)) : Calls Tryd.prog 34 #[.int .i64 k, .pointer (some ⟨P, 0, none⟩)] w (fun e w' => e = .returned (.bool (k == st)) ∧ w = w') := by
  go_enter Tryd.func34, Tryd.ntmps34
  go_wp2
  go_ret
  exact ⟨rfl, rfl⟩

def FoundAt (xs : List Int) (v : Int) (w : World) (e : Ending) (w' : World) : Prop :=
  w = w' ∧ ((e = .returned (.int .i64 (-1)) ∧ ∀ x ∈ xs, x ≠ v) ∨ ∃ k : Nat, ∃ h : k < xs.length, e = .returned (.int .i64 k) ∧ xs[k] = v ∧ ∀ j (hj : j < xs.length), j < k → xs[j] ≠ v)
theorem found_yes {xs : List Int} {v : Int} {k : Nat} {w : World} (hk : k < xs.length) (h : xs[k] = v) (hall : ∀ j (hj : j < xs.length), j < k → xs[j] ≠ v) : FoundAt xs v w (.returned (.int .i64 k)) w :=
  ⟨rfl, .inr ⟨k, hk, rfl, h, hall⟩⟩
theorem found_no {xs : List Int} {v : Int} {w : World} (hall : ∀ j (hj : j < xs.length), xs[j] ≠ v) : FoundAt xs v w (.returned (.int .i64 (-1))) w :=
  ⟨rfl, .inl ⟨rfl, fun x hx => by
    obtain ⟨j, hj, rfl⟩ := List.mem_iff_getElem.1 hx
    exact hall j hj⟩⟩
theorem indexI_any (s : SL) (xs : List Int) (st : Int) (P : Nat) (w : World) (hP : w.cell? ⟨P, 0, none⟩ = some (.int .i64 st)) (h : RdI w s xs) (hl : xs.length ≤ 140737488351232) :
    Calls Tryd.prog 41 #[s.v xs.length, .func (.func 34) #[] #[.pointer (some ⟨P, 0, none⟩)]] w (FoundAt xs st w) := by
  have H := Lib.hid h
  have HP := Lib.hid hP
  clear h hP
  obtain ⟨A, cp⟩ := s
  unfold SL.v
  go_enter Tryd.func41, Tryd.ntmps41
  go_wp2
  go_loop [8] (fun i => ∃ k : Nat, k ≤ xs.length ∧ i = .int .i64 k ∧ Hid (∀ j (hj : j < xs.length), j < k → xs[j] ≠ st)) (fun i => xs.length - (intOf i).toNat)
  case atStart => exact ⟨0, Nat.zero_le _, rfl, Lib.hid (fun j _ h => absurd h (Nat.not_lt_zero _))⟩
  case round =>
    obtain ⟨k, hk, rfl, hall⟩ := hrel
    by_cases hlt : k < xs.length
    · obtain ⟨ad, he, hc⟩ := H.out.at_ k hlt
      obtain rfl : A = some ad := he
      by_cases hv : xs[k] = st
      · have HY := Lib.hid (found_yes (w := w) hlt hv hall.out)
        have HV := Lib.hid (show (xs[k] == st) = true by simp [hv])
        clear hv
        go_wp2_with (refine (drop1_any _ _ _ _ HP.out).mono ?_; rw [HV.out]; rintro e w' ⟨rfl, rfl⟩)
        go_ret
        exact HY.out
      · have HN : Hid (∀ j (hj : j < xs.length), j < k + 1 → xs[j] ≠ st) := Lib.hid (fun j hj h => by
          by_cases e : j = k
          · subst e; exact hv
          · exact hall.out j hj (by omega))
        have HV := Lib.hid (show (xs[k] == st) = false by simp [hv])
        clear hv hall
        go_wp2_with (refine (drop1_any _ _ _ _ HP.out).mono ?_; rw [HV.out]; rintro e w' ⟨rfl, rfl⟩)
        go_round
        case rel => exact ⟨k + 1, by omega, by go_num, HN⟩
        case measure => simp [intOf]; omega
    · have HN := Lib.hid (found_no (w := w) (v := st) (xs := xs) (fun j hj => hall.out j hj (by omega)))
      clear hall
      go_wp2
      go_ret
      exact HN.out

/-- without a step -/
def dropL (xs : List Int) (v : Int) : List Int := xs.filter fun k => !(k == v)
theorem dropL_none {xs : List Int} {v : Int} (h : ∀ x ∈ xs, x ≠ v) : dropL xs v = xs := List.filter_eq_self.2 fun x hx => by simp [h x hx]
theorem dropL_le (xs : List Int) (v : Int) : (dropL xs v).length ≤ xs.length := List.length_filter_le _ _

/-- where DeleteFunc's loop stands -/
structure DR (w : World) (B g n cap : Nat) (xs : List Int) (v : Int) (i j : Nat) (wr : World) : Prop where
  lt : i < j
  le : j ≤ n
  row : ∃ ys : List Int, ys.length = n ∧ ys.take i = dropL (xs.take j) v ∧ (∀ m, j ≤ m → ys[m]? = xs[m]?) ∧ Kd.R kI 3 wr B (fun _ => True) (.slice (some ⟨g, 0, none⟩) n cap) ys
  grown : w.grownBy wr (some g)

theorem dr_cells {w wr : World} {B g n cap : Nat} {xs : List Int} {v : Int} {i j : Nat} (h : DR w B g n cap xs v i j wr) (hj : j < n) (hn : xs.length = n) :
    wr.cell? ⟨g, j, none⟩ = some (.int .i64 (xs[j]'(by omega))) ∧ (∃ u, wr.cell? ⟨g, i, none⟩ = some u) ∧ wr.frozen? ⟨g, i, none⟩ = false := by
  obtain ⟨ys, h1, h2, h3, h4⟩ := h.row
  subst h1
  have e := Kd.R_cell (d := (0 : Int)) (h1 := fun _ => rfl) h4 (j : Int) (by omega) (by omega)
  have e2 := Kd.R_cell (d := (0 : Int)) (h1 := fun _ => rfl) h4 (i : Int) (by omega) (by have := h.lt; omega)
  simp only [Int.toNat_natCast] at e e2
  have h5 := h3 j (Nat.le_refl _)
  rw [List.getElem?_eq_getElem hj, List.getElem?_eq_getElem (by omega)] at h5
  injection h5 with h5
  refine ⟨?_, ⟨_, e2.1⟩, e2.2⟩
  rw [e.1]
  simp [YtedalanhjhiehaaDoorW.PrintWords.rdOf, List.getD_eq_getElem?_getD, List.getElem?_eq_getElem hj, h5]
theorem take_succ' {xs : List Int} {j : Nat} (hj : j < xs.length) : xs.take (j + 1) = xs.take j ++ [xs[j]] := by rw [List.take_succ_eq_append_getElem hj]
theorem dr_keep {w wr : World} {B g n cap : Nat} {xs : List Int} {v : Int} {i j : Nat} (h : DR w B g n cap xs v i j wr) (hj : j < n) (hn : xs.length = n) (hv : ¬ xs[j]'(by omega) = v) :
    DR w B g n cap xs v (i + 1) (j + 1) (wr.setCell ⟨g, i, none⟩ (.int .i64 (xs[j]'(by omega)))) := by
  obtain ⟨h0, h01, ⟨ys, h1, h2, h3, h4⟩, hg⟩ := h
  subst h1
  obtain ⟨p1, p2⟩ := Kd.R_put (h1 := fun _ => rfl) h4 (i : Int) (xs[j]'(by omega))
  simp only [Int.toNat_natCast] at p1 p2
  refine ⟨by omega, by omega, ⟨ys.set i (xs[j]'(by omega)), by simp, ?_, fun m hm => ?_, p1⟩, World.grownBy.trans hg p2⟩
  · rw [take_succ' (xs := xs) (j := j) (by omega), dropL, List.filter_append, ← dropL, ← h2]
    have hi : i < (ys.set i (xs[j]'(by omega))).length := by rw [List.length_set]; omega
    rw [List.take_succ_eq_append_getElem hi]
    rw [List.getElem_set_self, List.take_set_of_le (Nat.le_refl _)]
    simp [hv]
  · rw [List.getElem?_set_ne (by omega)]
    exact h3 m (by omega)
theorem dr_skip {w wr : World} {B g n cap : Nat} {xs : List Int} {v : Int} {i j : Nat} (h : DR w B g n cap xs v i j wr) (hj : j < n) (hn : xs.length = n) (hv : xs[j]'(by omega) = v) :
    DR w B g n cap xs v i (j + 1) wr := by
  obtain ⟨h0, h01, ⟨ys, h1, h2, h3, h4⟩, hg⟩ := h
  refine ⟨by omega, by omega, ⟨ys, h1, ?_, fun m hm => h3 m (by omega), h4⟩, hg⟩
  rw [take_succ' (xs := xs) (j := j) (by omega), dropL, List.filter_append, ← dropL, ← h2]
  simp [hv]
/-- what is left behind the clearing -/
theorem dr_end {w wr : World} {B g n cap : Nat} {xs : List Int} {v : Int} {i : Nat} (h : DR w B g n cap xs v i n wr) (hn : xs.length = n) :
    (dropL xs v).length = i ∧ Kd.R kI 3 (wr.setCells g i (List.replicate (n - i) (.int .i64 0))) B (fun _ => True) (.slice (some ⟨g, 0, none⟩) i cap) (dropL xs v) ∧ w.grownBy (wr.setCells g i (List.replicate (n - i) (.int .i64 0))) (some g)
    ∧ n ≤ cap ∧ (∀ t, t < n - i → (wr.cell? ⟨g, i + t, none⟩).isSome = true) ∧ (∀ t, t < n - i → wr.frozen? ⟨g, i + t, none⟩ = false) := by
  obtain ⟨h0, h01, ⟨ys, h1, h2, h3, h4⟩, hg⟩ := h
  rw [← hn, List.take_length] at h2
  have hlen : (dropL xs v).length = i := by rw [← h2, List.length_take]; omega
  obtain ⟨_, inner, ho, hr⟩ := h4
  have hin : inner.length = n := by rw [hr.1, h1]; simp [kI, Kd.int, Kd.scalar]
  rcases ho.2 with ⟨hv, _⟩ | ⟨g', cap', cur, hv, hb, hh, hnc, hcm, hcs, htk⟩
  · cases hv
  injection hv with ha _ hc
  injection ha with ha
  injection ha with ha
  subst ha; subst hc
  have hsz : Kd.sz kI = 1 := rfl
  rw [hsz] at hcs htk
  obtain ⟨cur', c1, c2, c3⟩ := YtedalanhjhiehaaDoorW.PrintWords.setCells_row (List.replicate (n - i) (.int .i64 0)) i wr cur hh (by simp; omega)
  obtain ⟨s1, s2, s3, s4⟩ := YtedalanhjhiehaaDoorW.PrintWords.setCells_same g (List.replicate (n - i) (Value.int .i64 0)) i wr
  refine ⟨hlen, ⟨fun _ _ => trivial, inner.take i, ⟨by rw [List.length_take, hlen, hsz]; omega, .inr ⟨g, cap, cur', by rw [hlen], hb, c1, by omega, hcm, by rw [c2, hcs, hsz], ?_⟩⟩, ?_⟩, World.grownBy.trans hg ⟨s1, s2, s3, by rw [s4]; exact Nat.le_refl _, fun k _ hk => YtedalanhjhiehaaDoorW.PrintWords.setCells_far _ _ k (fun e => hk (by rw [e]))⟩, by omega, fun t ht => ?_, fun t ht => ?_⟩
  · rw [hlen, hsz, c3, Nat.mul_one, List.append_assoc, List.take_append_of_le_length (by rw [List.length_take, Array.length_toList]; omega), List.take_take, Nat.min_self]
    rw [← htk, List.take_take, Nat.min_eq_left (by omega)]
  · have := YtedalanhjhiehaaDoorW.PrintWords.Kd.reps_take hr (m := i) (by omega)
    rw [h2, hsz, Nat.mul_one] at this
    exact this.imp_ (fun _ _ h => h)
  · rw [cell_at hh, Array.getElem?_eq_getElem (by omega)]; rfl
  · exact frozen_at hh _
end Go.Proofs.YtedalanhjhiehaaDoor
