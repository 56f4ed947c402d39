import Derived.Test.YtedalanhjhiehaaDoorQc
namespace Go.Proofs.YtedalanhjhiehaaDoor
open Go.RowKit

/-- what stands ahead of a step that isn't done -/
def lacksB (dn : List Int) (st : Int) (x : Int × Int) : Bool := x.2 == st && !hasB dn x.1

theorem may1_any (dn : List Int) (sl : SL) (st : Int) (P S : Nat) (x : Int × Int) (w : World) (hP : w.cell? ⟨P, 0, none⟩ = some (.int .i64 st)) (hS : w.cell? ⟨S, 7, none⟩ = some (sl.v dn.length)) (h : RdI w sl dn) (hl : dn.length ≤ 140737488351232) :
    Calls Tryd.prog 26 #[.agg #[.int .i64 x.1, .int .i64 x.2], .pointer (some ⟨P, 0, none⟩), .pointer (some ⟨S, 0, none⟩)] w (Ret w (.bool (lacksB dn st x))) := by
  have hP2 : P < w.heap.size := World.block_lt_of_cell? w _ hP
  have hS2 : S < w.heap.size := World.block_lt_of_cell? w _ hS
  have H := Lib.hid h
  clear h
  unfold SL.v at *
  by_cases hx : x.2 = st
  · have hd : (x.2 == st) = true := by simp [hx]
    have HX := Lib.hid hx
    clear hx
    go_enter Tryd.func26, Tryd.ntmps26
    go_wp2_with (go_at_call 24; refine (contains_any sl dn _ _ (H.out.below ((Below.refl _ _).alloc (Nat.le_refl _) _)) hl).mono ?_; rintro e w' ⟨rfl, rfl⟩)
    go_ret
    exact ⟨ret_bool (by simp [lacksB, HX.out]), (Below.refl _ _).alloc (Nat.le_refl _) _⟩
  · have hd : (x.2 == st) = false := by simp [hx]
    have HX := Lib.hid hx
    clear hx
    go_enter Tryd.func26, Tryd.ntmps26
    go_wp2
    go_ret
    exact ⟨ret_bool (by simp [lacksB, HX.out]), (Below.refl _ _).alloc (Nat.le_refl _) _⟩

/-- a walk through a list by a question: the first that is so -/
theorem any_take {α : Type} {p : α → Bool} {xs : List α} {k : Nat} (h : ∀ j (hj : j < xs.length), j < k → p xs[j] = false) (hk : xs.length ≤ k) : xs.any p = false := by
  rw [List.any_eq_false]
  intro x hx
  obtain ⟨j, hj, rfl⟩ := List.mem_iff_getElem.1 hx
  simp [h j hj (by omega)]
theorem any_at {α : Type} {p : α → Bool} {xs : List α} {k : Nat} (hk : k < xs.length) (h : p xs[k] = true) : xs.any p = true := List.any_eq_true.2 ⟨_, List.getElem_mem hk, h⟩
def IdxB (b : Bool) (w : World) (e : Ending) (w' : World) : Prop := ∃ i : Int, e = .returned (.int .i64 i) ∧ Below w.heap.size w w' ∧ decide (0 ≤ i) = b

/-- 'slices.IndexFunc' over pairs, whatever the question -/
def Asks (F : Nat) (caps : Array Value) (p : Int × Int → Bool) (W : World) : Prop :=
  ∀ (x : Int × Int) (w : World), Below W.heap.size W w → Calls Tryd.prog F (#[.agg #[.int .i64 x.1, .int .i64 x.2]] ++ caps) w (Ret w (.bool (p x)))

theorem indexE_any (s : SL) (xs : List (Int × Int)) (P S : Nat) (p : Int × Int → Bool) (W : World) (hA : Asks 26 #[.pointer (some ⟨P, 0, none⟩), .pointer (some ⟨S, 0, none⟩)] p W) (h : RdP W s xs) (hl : xs.length ≤ 140737488351232) :
    Calls Tryd.prog 36 #[s.v xs.length, .func (.func 26) #[] #[.pointer (some ⟨P, 0, none⟩), .pointer (some ⟨S, 0, none⟩)]] W (IdxB (xs.any p) W) := by
  have H := Lib.hid h
  have HA := Lib.hid hA
  clear h hA
  obtain ⟨A, cp⟩ := s
  unfold SL.v
  go_enter Tryd.func36, Tryd.ntmps36
  go_wp2
  go_loopw [8] (fun i wr => ∃ k : Nat, k ≤ xs.length ∧ i = .int .i64 k ∧ Hid (∀ j (hj : j < xs.length), j < k → p xs[j] = false) ∧ Hid (Below W.heap.size W wr)) (fun i _ => xs.length - (intOf i).toNat)
  case atStart => exact ⟨0, Nat.zero_le _, rfl, Lib.hid (fun j _ h => absurd h (Nat.not_lt_zero _)), Lib.hid (Below.refl _ _)⟩
  case round =>
    obtain ⟨k, hk, rfl, hall, HB⟩ := hrel
    by_cases hlt : k < xs.length
    · obtain ⟨ad, he, hc0, hc1⟩ := (H.out.below HB.out).at_ k hlt
      obtain rfl : A = some ad := he
      cases hv : p xs[k]
      · have HN : Hid (∀ j (hj : j < xs.length), j < k + 1 → p xs[j] = false) := Lib.hid (fun j hj h => by
          by_cases e : j = k
          · subst e; exact hv
          · exact hall.out j hj (by omega))
        have HV := Lib.hid hv
        clear hv hall
        go_wp2_with (refine (HA.out _ _ HB.out).mono ?_; rw [HV.out]; rintro e w' ⟨rfl, hb⟩; have HB2 := Lib.hid (HB.out.trans (hb.mono HB.out.size)); clear hb)
        go_roundw
        case rel => exact ⟨k + 1, by omega, by go_num, HN, HB2⟩
        case measure => simp [intOf]; omega
      · have HV := Lib.hid hv
        have HY := Lib.hid (any_at hlt hv)
        clear hv hall
        go_wp2_with (refine (HA.out _ _ HB.out).mono ?_; rw [HV.out]; rintro e w' ⟨rfl, hb⟩; have HB2 := Lib.hid (HB.out.trans (hb.mono HB.out.size)); clear hb)
        go_ret
        exact ⟨_, rfl, HB2.out, by rw [HY.out]; simp⟩
    · have HN := Lib.hid (any_take (p := p) (xs := xs) (k := k) (fun j hj h => hall.out j hj h) (by omega))
      clear hall
      go_wp2
      go_ret
      exact ⟨_, rfl, HB.out, by rw [HN.out]; simp⟩
theorem indexS_any (s : SL) (xs : List (Int × Int)) (p : Int × Int → Bool) (W : World) (hA : Asks 40 #[] p W) (h : RdP W s xs) (hl : xs.length ≤ 140737488351232) :
    Calls Tryd.prog 45 #[s.v xs.length, .func (.func 40) #[] #[]] W (IdxB (xs.any p) W) := by
  have H := Lib.hid h
  have HA := Lib.hid hA
  clear h hA
  obtain ⟨A, cp⟩ := s
  unfold SL.v
  go_enter Tryd.func45, Tryd.ntmps45
  go_wp2
  go_loopw [8] (fun i wr => ∃ k : Nat, k ≤ xs.length ∧ i = .int .i64 k ∧ Hid (∀ j (hj : j < xs.length), j < k → p xs[j] = false) ∧ Hid (Below W.heap.size W wr)) (fun i _ => xs.length - (intOf i).toNat)
  case atStart => exact ⟨0, Nat.zero_le _, rfl, Lib.hid (fun j _ h => absurd h (Nat.not_lt_zero _)), Lib.hid (Below.refl _ _)⟩
  case round =>
    obtain ⟨k, hk, rfl, hall, HB⟩ := hrel
    by_cases hlt : k < xs.length
    · obtain ⟨ad, he, hc0, hc1⟩ := (H.out.below HB.out).at_ k hlt
      obtain rfl : A = some ad := he
      cases hv : p xs[k]
      · have HN : Hid (∀ j (hj : j < xs.length), j < k + 1 → p xs[j] = false) := Lib.hid (fun j hj h => by
          by_cases e : j = k
          · subst e; exact hv
          · exact hall.out j hj (by omega))
        have HV := Lib.hid hv
        clear hv hall
        go_wp2_with (refine (HA.out _ _ HB.out).mono ?_; rw [HV.out]; rintro e w' ⟨rfl, hb⟩; have HB2 := Lib.hid (HB.out.trans (hb.mono HB.out.size)); clear hb)
        go_roundw
        case rel => exact ⟨k + 1, by omega, by go_num, HN, HB2⟩
        case measure => simp [intOf]; omega
      · have HV := Lib.hid hv
        have HY := Lib.hid (any_at hlt hv)
        clear hv hall
        go_wp2_with (refine (HA.out _ _ HB.out).mono ?_; rw [HV.out]; rintro e w' ⟨rfl, hb⟩; have HB2 := Lib.hid (HB.out.trans (hb.mono HB.out.size)); clear hb)
        go_ret
        exact ⟨_, rfl, HB2.out, by rw [HY.out]; simp⟩
    · have HN := Lib.hid (any_take (p := p) (xs := xs) (k := k) (fun j hj h => hall.out j hj h) (by omega))
      clear hall
      go_wp2
      go_ret
      exact ⟨_, rfl, HB.out, by rw [HN.out]; simp⟩

theorem lacks_any (s : SL) (xs : List (Int × Int)) (P S : Nat) (p : Int × Int → Bool) (W : World) (hA : Asks 26 #[.pointer (some ⟨P, 0, none⟩), .pointer (some ⟨S, 0, none⟩)] p W) (h : RdP W s xs) (hl : xs.length ≤ 140737488351232) :
    Calls Tryd.prog 25 #[s.v xs.length, .func (.func 26) #[] #[.pointer (some ⟨P, 0, none⟩), .pointer (some ⟨S, 0, none⟩)]] W (Ret W (.bool (xs.any p))) := by
  have HI := Lib.hid (indexE_any s xs P S p W hA h hl)
  clear h hl hA
  unfold SL.v at *
  go_enter Tryd.func25, Tryd.ntmps25
  go_wp2_with (refine HI.out.mono ?_; rintro e w' ⟨i, rfl, hb, hi⟩)
  go_ret
  exact ⟨by first | rfl | (rw [← hi]), hb⟩
theorem odd_any (s : SL) (xs : List (Int × Int)) (p : Int × Int → Bool) (W : World) (hA : Asks 40 #[] p W) (h : RdP W s xs) (hl : xs.length ≤ 140737488351232) :
    Calls Tryd.prog 39 #[s.v xs.length, .func (.func 40) #[] #[]] W (Ret W (.bool (xs.any p))) := by
  have HI := Lib.hid (indexS_any s xs p W hA h hl)
  clear h hl hA
  unfold SL.v at *
  go_enter Tryd.func39, Tryd.ntmps39
  go_wp2_with (refine HI.out.mono ?_; rintro e w' ⟨i, rfl, hb, hi⟩)
  go_ret
  exact ⟨by first | rfl | (rw [← hi]), hb⟩
def oddB (x : Int × Int) : Bool := decide (x.2 < 1) || decide (3 < x.2)
theorem asks40 (W : World) : Asks 40 #[] oddB W := fun x w _ => begins1_any x.1 x.2 w
theorem asks26 (dn : List Int) (sl : SL) (st : Int) (P S : Nat) (w : World) (hP : w.cell? ⟨P, 0, none⟩ = some (.int .i64 st)) (hS : w.cell? ⟨S, 7, none⟩ = some (sl.v dn.length)) (h : RdI w sl dn) (hl : dn.length ≤ 140737488351232) :
    Asks 26 #[.pointer (some ⟨P, 0, none⟩), .pointer (some ⟨S, 0, none⟩)] (lacksB dn st) w := fun x w1 hb =>
  may1_any dn sl st P S x w1 ((hb.cell (World.block_lt_of_cell? w _ hP)).trans hP) ((hb.cell (World.block_lt_of_cell? w _ hS)).trans hS) (h.below hb) hl
end Go.Proofs.YtedalanhjhiehaaDoor
