import Derived.Test.YtedalanhjhiehaaDoorSc
set_option linter.unusedSimpArgs false
set_option linter.unusedVariables false
namespace Go.Proofs.YtedalanhjhiehaaDoor
open Go.RowKit
open YtedalanhjhiehaaDoorW.PrintWords (nums ReadsInt rd own_slice own_typed Kd)

def smallL (rs : List RecP) (m : Int) : Bool := rs.all (fun r => smallB r.plan) && decide ((rs.length : Int) ≤ m)
theorem RdR.len {w : World} {s : SL} {rs : List RecP} (h : RdR w s rs) : rs.length ≤ 9223372036854775807 := h.c.2.1

set_option maxHeartbeats 2000000 in
set_option maxRecDepth 100000 in
theorem small_any (sl : SL) (rs : List RecP) (m : Int) (w : World) (h : RdR w sl rs) :
    Calls Tryd.prog 13 #[sl.v rs.length, .int .i64 m] w (Ret w (.bool (smallL rs m))) := by
  obtain ⟨A, cp⟩ := sl
  have H := Lib.hid h
  have hlen := h.len
  clear h
  unfold SL.v at *
  go_enter Tryd.func13, Tryd.ntmps13
  go_wp2
  go_loopw [11] (fun i wr => ∃ k : Nat, k ≤ rs.length ∧ i = .int .i64 k ∧ Hid (∀ j (hj : j < rs.length), j < k → smallB rs[j].plan = true) ∧ Hid (Below w.heap.size w wr)) (fun i _ => rs.length - (intOf i).toNat)
  case atStart => exact ⟨0, Nat.zero_le _, rfl, Lib.hid (fun j _ h => absurd h (Nat.not_lt_zero _)), Lib.hid (Below.refl _ _)⟩
  case round =>
    obtain ⟨k, hk, rfl, hall, HB⟩ := hrel
    by_cases hlt : k < rs.length
    · obtain ⟨ad, u, he, hu, r0, r1, r2, r3, r4, r5⟩ := (H.out.below HB.out).at_ k hlt
      obtain rfl : A = some ad := he
      obtain ⟨w4, hw4⟩ : ∃ w4, w4 = wr.alloc (.cells (recCells u rs[k]) 39) := ⟨_, rfl⟩
      have b4 : Below wr.heap.size wr w4 := by rw [hw4]; exact (Below.refl _ _).alloc (Nat.le_refl _) _
      have hx4 : w4.heap[wr.heap.size]? = some (.cells (recCells u rs[k]) 39 (0, 0)) := by rw [hw4]; exact heap_alloc_new wr _
      have q2 : w4.cell? ⟨wr.heap.size, 2, none⟩ = some (u.f.v rs[k].plan.fr.length) := by rw [cell_at hx4]; rfl
      have q3 : w4.cell? ⟨wr.heap.size, 3, none⟩ = some (u.t.v rs[k].plan.tt.length) := by rw [cell_at hx4]; rfl
      have q4 : w4.cell? ⟨wr.heap.size, 4, none⟩ = some (u.s.v rs[k].plan.steps.length) := by rw [cell_at hx4]; rfl
      have q5 : w4.cell? ⟨wr.heap.size, 5, none⟩ = some (u.b.v rs[k].plan.before.length) := by rw [cell_at hx4]; rfl
      have HU := Lib.hid (And.intro (hu.below b4) (HB.out.trans (b4.mono HB.out.size)))
      clear hx4 b4 hu
      unfold recCells SL.v at *
      go_upto_region 4 with (fail)
      rw [← hw4]
      clear hw4
      rcases hsm : smallB rs[k].plan with _ | _
      · have HSM := Lib.hid hsm
        have HR : Hid (smallL rs m = false) := Lib.hid (by
          have : rs.all (fun r => smallB r.plan) = false := List.all_eq_false.2 ⟨_, List.getElem_mem hlt, by rw [hsm]; decide⟩
          simp [smallL, this])
        clear hall hsm
        go_upto_region 5 with (go_at_call 6; refine (madePlan_any u rs[k].plan w4 HU.out.1).mono ?_; rintro e w5 ⟨s', xs, rfl, _, _, hb⟩; rw [HSM.out]; have HB5 := Lib.hid (HU.out.2.trans (hb.mono HU.out.2.size)); clear hb)
        have HB6 := Lib.hid (HB5.out.alloc HB5.out.size (.cells #[.slice u.f.a rs[k].plan.fr.length u.f.c, .slice u.t.a rs[k].plan.tt.length u.t.c, .slice s'.a xs.length s'.c, .slice u.b.a rs[k].plan.before.length u.b.c] 30))
        go_wp2
        go_ret
        exact ⟨by rw [HR.out]; rfl, HB6.out⟩
      · have HSM := Lib.hid hsm
        have HN : Hid (∀ j (hj : j < rs.length), j < k + 1 → smallB rs[j].plan = true) := Lib.hid (fun j hj h => by
          by_cases e : j = k
          · subst e; exact hsm
          · exact hall.out j hj (by omega))
        clear hall hsm
        go_upto_region 5 with (go_at_call 6; refine (madePlan_any u rs[k].plan w4 HU.out.1).mono ?_; rintro e w5 ⟨s', xs, rfl, _, _, hb⟩; rw [HSM.out]; have HB5 := Lib.hid (HU.out.2.trans (hb.mono HU.out.2.size)); clear hb)
        have HB6 := Lib.hid (HB5.out.alloc HB5.out.size (.cells #[.slice u.f.a rs[k].plan.fr.length u.f.c, .slice u.t.a rs[k].plan.tt.length u.t.c, .slice s'.a xs.length s'.c, .slice u.b.a rs[k].plan.before.length u.b.c] 30))
        go_wp2
        go_roundw
        case rel => exact ⟨k + 1, by omega, by go_num, HN, HB6⟩
        case measure => simp [intOf]; omega
    · have HR : Hid (smallL rs m = decide ((rs.length : Int) ≤ m)) := Lib.hid (by
        have : rs.all (fun r => smallB r.plan) = true := List.all_eq_true.2 (fun x hx => by obtain ⟨j, hj, rfl⟩ := List.mem_iff_getElem.1 hx; exact hall.out j hj (by omega))
        simp [smallL, this])
      clear hall
      go_wp2
      go_ret
      exact ⟨by rw [HR.out]; rfl, HB.out⟩

def P0 : PlanP := ⟨[], [], [(0, 2), (1, 2)], [(1, 0)]⟩
def S1 : StateP := ⟨1, 2, P0, [1], []⟩
def S2 : StateP := ⟨1, 2, P0, [], []⟩
def S3 : StateP := ⟨1, 5, P0, [], []⟩
theorem anc1 : rplG noState 0 [⟨1, 0, P0⟩, ⟨2, 1, noPlan⟩, ⟨4, 1, noPlan⟩] = (S1, 3, 0) := by kernel_rfl
theorem anc2 : topP S1 = (1, true) := by decide +kernel
theorem anc3 : takeP S1 ⟨6, 1, noPlan⟩ = (S2, 0) := by kernel_rfl
theorem anc4 : takeP S2 ⟨8, 0, noPlan⟩ = (S3, 0) := by kernel_rfl
theorem anc5 : mayK S1 0 = false := by decide +kernel
end Go.Proofs.YtedalanhjhiehaaDoor
