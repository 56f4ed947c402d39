import Derived.Test.YtedalanhjhiehaaDoorQq
set_option linter.unusedSimpArgs false
namespace Go.Proofs.YtedalanhjhiehaaDoor
open Go.RowKit
open YtedalanhjhiehaaDoorW.PrintWords (nums ReadsInt rd own_slice own_typed Kd)

def beginsB (p : PlanP) : Bool := orderE p.steps.length p.before == 0 && decide (p.steps.length ≤ 36) && !p.steps.any oddB

set_option maxHeartbeats 4000000 in
theorem begins_any (v : PV) (p : PlanP) (w : World) (h : RdPlan w v p) (hl : Lens p) (hT : Tab w) : Calls Tryd.prog 29 #[planV v p] w (Ret w (.bool (beginsB p))) := by
  obtain ⟨w2, hw2⟩ : ∃ w2, w2 = w.alloc (.cells (planCells v p) 26) := ⟨_, rfl⟩
  have hb2 : Below w.heap.size w w2 := by rw [hw2]; exact (Below.refl _ _).alloc (Nat.le_refl _) _
  have hc2 := heap_alloc_new w (.cells (planCells v p) 26)
  rw [← hw2] at hc2
  have c2 : w2.cell? ⟨w.heap.size, 2, none⟩ = some (v.s.v p.steps.length) := by rw [cell_at hc2]; rfl
  have H := Lib.hid (h.below hb2)
  have HT := Lib.hid (hT.below hb2)
  have HB2 := Lib.hid hb2
  have HC := Lib.hid c2
  have HL := Lib.hid hl
  have hs0 := hl.s
  clear h hb2 hc2 hT c2 hl
  unfold planV planCells SL.v at *
  obtain ⟨oe, hoe⟩ : ∃ oe, oe = orderE p.steps.length p.before := ⟨_, rfl⟩
  have HO := Lib.hid hoe
  clear hoe
  have HF : Hid (∀ (b : Bool) (w5 : World), Below w2.heap.size w2 w5 → beginsB p = b → Ret w (.bool (beginsB p)) (.returned (.bool b)) w5) := Lib.hid (fun _ _ hb he => ⟨by rw [he], HB2.out.trans (hb.mono HB2.out.size)⟩)
  by_cases h0 : oe = 0
  · by_cases h36 : p.steps.length ≤ 36
    · have H0 := Lib.hid h0
      clear h0
      have h36' : (p.steps.length : Int) ≤ 36 := by omega
      go_enter Tryd.func29, Tryd.ntmps29
      go_wp2_with (first | (go_at_call 37; rw [← hw2]; refine (graph_any v p w2 H.out HL.out).mono ?_; rintro e w3 ⟨s3, rfl, ho, hb⟩; have H3 := Lib.hid (And.intro ho hb); clear ho hb hw2; unfold graphV) | (go_at_call 38; refine (order_any p.steps.length s3 p.before w3 H3.out.1.rd HL.out.b HL.out.s (HT.out.below H3.out.2)).mono ?_; rintro e w4 ⟨A4, m4, c4, he, hb⟩; rw [← HO.out, H0.out] at he; obtain rfl := he; have HB4 := Lib.hid (H3.out.2.trans (hb.mono H3.out.2.size)); have k2 := keep_cell HB4.out HC.out; clear hb) | (go_at_call 39; refine (odd_any v.s p.steps oddB _ (asks40 _) (H.out.s.below HB4.out) (by omega)).mono ?_; rintro e w5 ⟨rfl, hb⟩; have HB5 := Lib.hid (HB4.out.trans (hb.mono HB4.out.size)); clear hb))
      go_ret
      exact HF.out _ _ HB5.out (by simp [beginsB, ← HO.out, H0.out, h36])
    · have H0 := Lib.hid h0
      clear h0
      have h36' : ¬ (p.steps.length : Int) ≤ 36 := by omega
      go_enter Tryd.func29, Tryd.ntmps29
      go_wp2_with (first | (go_at_call 37; rw [← hw2]; refine (graph_any v p w2 H.out HL.out).mono ?_; rintro e w3 ⟨s3, rfl, ho, hb⟩; have H3 := Lib.hid (And.intro ho hb); clear ho hb hw2; unfold graphV) | (go_at_call 38; refine (order_any p.steps.length s3 p.before w3 H3.out.1.rd HL.out.b HL.out.s (HT.out.below H3.out.2)).mono ?_; rintro e w4 ⟨A4, m4, c4, he, hb⟩; rw [← HO.out, H0.out] at he; obtain rfl := he; have HB4 := Lib.hid (H3.out.2.trans (hb.mono H3.out.2.size)); have k2 := keep_cell HB4.out HC.out; clear hb))
      go_ret
      exact HF.out _ _ HB4.out (by simp [beginsB, h36])
  · have H0 := Lib.hid h0
    have h1 : (oe == 0) = false := by simp [h0]
    clear h0
    go_enter Tryd.func29, Tryd.ntmps29
    go_wp2_with (first | (go_at_call 37; rw [← hw2]; refine (graph_any v p w2 H.out HL.out).mono ?_; rintro e w3 ⟨s3, rfl, ho, hb⟩; have H3 := Lib.hid (And.intro ho hb); clear ho hb hw2; unfold graphV) | (go_at_call 38; refine (order_any p.steps.length s3 p.before w3 H3.out.1.rd HL.out.b HL.out.s (HT.out.below H3.out.2)).mono ?_; rintro e w4 ⟨A4, m4, c4, he, hb⟩; rw [← HO.out] at he; obtain rfl := he; have HB4 := Lib.hid (H3.out.2.trans (hb.mono H3.out.2.size)); have k2 := keep_cell HB4.out HC.out; clear hb))
    go_ret
    exact HF.out _ _ HB4.out (by simp [beginsB, ← HO.out, H0.out])
end Go.Proofs.YtedalanhjhiehaaDoor
