import Derived.Test.YtedalanhjhiehaaDoorQa
namespace Go.Proofs.YtedalanhjhiehaaDoor
open Go.RowKit

/-- lengths that are told to the walk as bounds -/
structure Lens (p : PlanP) : Prop where
  f : p.fr.length ≤ 1000
  t : p.tt.length ≤ 1000
  s : p.steps.length ≤ 1000
  b : p.before.length ≤ 1000
theorem Lens.none : Lens noPlan := ⟨by decide, by decide, by decide, by decide⟩
structure LensS (s : StateP) : Prop where
  p : Lens s.plan
  o : s.op.length ≤ 1000
  d : s.dn.length ≤ 1000
theorem LensS.none : LensS noState := ⟨Lens.none, by decide, by decide⟩

def bareB (p : PlanP) : Bool := p.fr.length == 0 && p.tt.length == 0 && p.steps.length == 0 && p.before.length == 0
theorem bare_any (v : PV) (p : PlanP) (w : World) (hl : Lens p) : Calls Tryd.prog 27 #[planV v p] w (Ret w (.bool (bareB p))) := by
  obtain ⟨h1, h2, h3, h4⟩ := hl
  unfold planV SL.v
  go_enter Tryd.func27, Tryd.ntmps27
  go_wp2
  go_ret
  refine ⟨ret_bool ?_, (Below.refl _ _).alloc (Nat.le_refl _) _⟩
  rw [Bool.eq_iff_iff]
  simp only [bareB, Bool.and_eq_true, beq_iff_eq]
  omega

def endsB (s : StateP) : Bool := if s.ph = 3 then s.dn.length == s.plan.steps.length else if s.ph = 2 then s.op.length == 0 && s.dn.length == 0 else false
theorem ends_any (v : SV) (s : StateP) (w : World) (hl : LensS s) : Calls Tryd.prog 12 #[stV v s] w (Ret w (.bool (endsB s))) := by
  obtain ⟨⟨h1, h2, h3, h4⟩, h5, h6⟩ := hl
  unfold stV SL.v
  by_cases c1 : s.ph = 3
  · go_enter Tryd.func12, Tryd.ntmps12
    go_wp2
    go_ret
    refine ⟨ret_bool ?_, (Below.refl _ _).alloc (Nat.le_refl _) _⟩
    rw [Bool.eq_iff_iff]
    simp only [endsB, c1, if_true, beq_iff_eq]
    omega
  by_cases c2 : s.ph = 2
  · go_enter Tryd.func12, Tryd.ntmps12
    go_wp2
    go_ret
    refine ⟨ret_bool ?_, (Below.refl _ _).alloc (Nat.le_refl _) _⟩
    rw [Bool.eq_iff_iff]
    simp only [endsB, c2, if_true, Bool.and_eq_true, beq_iff_eq, show ((2 : Int) = 3) = False by simp, if_false]
    omega
  · go_enter Tryd.func12, Tryd.ntmps12
    go_wp2
    go_ret
    exact ⟨ret_bool (by simp [endsB, c1, c2]), (Below.refl _ _).alloc (Nat.le_refl _) _⟩

def formedB (r : RecP) : Bool := decide (1 ≤ r.kind) && decide (r.kind ≤ 8) && (r.kind == 1 || bareB r.plan) && (steppedB r.kind || r.step == 0)
theorem stepped_1 : steppedB 1 = false := rfl
theorem formed_any (v : PV) (r : RecP) (w : World) (hl : Lens r.plan) : Calls Tryd.prog 17 #[recV v r] w (Ret w (.bool (formedB r))) := by
  have HL := Lib.hid hl
  clear hl
  unfold recV SL.v
  by_cases c1 : ¬ 1 ≤ r.kind
  · go_enter Tryd.func17, Tryd.ntmps17
    go_wp2
    go_ret
    exact ⟨ret_bool (by simp [formedB]; omega), (Below.refl _ _).alloc (Nat.le_refl _) _⟩
  by_cases c2 : ¬ r.kind ≤ 8
  · go_enter Tryd.func17, Tryd.ntmps17
    go_wp2
    go_ret
    exact ⟨ret_bool (by simp [formedB]; omega), (Below.refl _ _).alloc (Nat.le_refl _) _⟩
  simp only [Decidable.not_not] at c1 c2
  by_cases c3 : r.kind = 1
  · go_enter Tryd.func17, Tryd.ntmps17
    go_wp2_with (go_at_call 28; refine (stepped_any _ _).mono ?_; rintro e w' ⟨rfl, rfl⟩)
    all_goals
      go_ret
      refine ⟨ret_bool ?_, (Below.refl _ _).alloc (Nat.le_refl _) _⟩
      simp [formedB, c3, stepped_1]
  · cases hbr : bareB r.plan
    · go_enter Tryd.func17, Tryd.ntmps17
      go_wp2_with (go_at_call 27; refine (bare_any v r.plan _ HL.out).mono ?_; rintro e w' ⟨rfl, hb⟩)
      go_ret
      exact ⟨ret_bool (by simp [formedB, c3, hbr]), ((Below.refl _ _).alloc (Nat.le_refl _) _).trans (hb.mono (by simp))⟩
    · cases hst : steppedB r.kind
      · go_enter Tryd.func17, Tryd.ntmps17
        go_wp2_with (first | (go_at_call 27; refine (bare_any v r.plan _ HL.out).mono ?_; rintro e w' ⟨rfl, hb⟩; obtain ⟨hc, hf⟩ := bcell hb) | (go_at_call 28; refine (stepped_any _ _).mono ?_; rintro e w' ⟨rfl, rfl⟩))
        all_goals
          go_ret
          exact ⟨ret_bool (by simp [formedB, c1, c2, hbr, hst]), ((Below.refl _ _).alloc (Nat.le_refl _) _).trans (hb.mono (by simp))⟩
      · go_enter Tryd.func17, Tryd.ntmps17
        go_wp2_with (first | (go_at_call 27; refine (bare_any v r.plan _ HL.out).mono ?_; rintro e w' ⟨rfl, hb⟩; obtain ⟨hc, hf⟩ := bcell hb) | (go_at_call 28; refine (stepped_any _ _).mono ?_; rintro e w' ⟨rfl, rfl⟩))
        all_goals
          go_ret
          exact ⟨ret_bool (by simp [formedB, c1, c2, hbr, hst]), ((Below.refl _ _).alloc (Nat.le_refl _) _).trans (hb.mono (by simp))⟩
end Go.Proofs.YtedalanhjhiehaaDoor
