import Derived.Test.YtedalanhjhiehaaDoorQs
set_option linter.unusedSimpArgs false
namespace Go.Proofs.YtedalanhjhiehaaDoor
open Go.RowKit
open YtedalanhjhiehaaDoorW.PrintWords (nums ReadsInt rd own_slice own_typed Kd)

/-- step k bars the mark: it is none of the last ones, and isn't done -/
def barsB (s : StateP) (k : Nat) : Bool := !((s.plan.steps.getD k (0, 0)).2 == 3) && !hasB s.dn k
def marksB (s : StateP) : Bool := s.ph == 1 && (List.range s.plan.steps.length).all fun k => !barsB s k
theorem marks_no {s : StateP} {k : Nat} (hk : k < s.plan.steps.length) (h : barsB s k = true) : marksB s = false := by
  have : ((List.range s.plan.steps.length).all fun k => !barsB s k) = false := by
    rw [List.all_eq_false]
    exact ⟨k, List.mem_range.2 hk, by simp [h]⟩
  simp [marksB, this]
theorem marks_end {s : StateP} (h : ∀ k, k < s.plan.steps.length → barsB s k = false) : marksB s = (s.ph == 1) := by
  have : ((List.range s.plan.steps.length).all fun k => !barsB s k) = true := by
    rw [List.all_eq_true]
    intro k hk
    simp [h k (List.mem_range.1 hk)]
  simp [marksB, this]

set_option maxHeartbeats 4000000 in
theorem marks_any (v : SV) (s : StateP) (w : World) (h : RdSt w v s) (hl : LensS s) : Calls Tryd.prog 9 #[stV v s] w (Ret w (.bool (marksB s))) := by
  obtain ⟨⟨f, t, ⟨A, cp⟩, b⟩, o, d⟩ := v
  obtain ⟨w2, hw2⟩ : ∃ w2, w2 = w.alloc (.cells (stCells ⟨⟨f, t, ⟨A, cp⟩, b⟩, o, d⟩ s) 34) := ⟨_, rfl⟩
  have hb2 : Below w.heap.size w w2 := by rw [hw2]; exact (Below.refl _ _).alloc (Nat.le_refl _) _
  have hx := heap_alloc_new w (.cells (stCells ⟨⟨f, t, ⟨A, cp⟩, b⟩, o, d⟩ s) 34)
  rw [← hw2] at hx
  have c1 : w2.cell? ⟨w.heap.size, 1, none⟩ = some (.int .i64 s.ph) := by rw [cell_at hx]; rfl
  have c7 : w2.cell? ⟨w.heap.size, 7, none⟩ = some (d.v s.dn.length) := by rw [cell_at hx]; rfl
  have H := Lib.hid (h.below hb2)
  have HB2 := Lib.hid hb2
  have HC := Lib.hid (And.intro c1 c7)
  have hls := hl.p.s
  have hld := hl.d
  clear h hb2 hx hl c1 c7
  unfold stV stCells SL.v at *
  dsimp only at *
  go_enter Tryd.func9, Tryd.ntmps9
  go_wp2
  rw [← hw2]
  clear hw2
  go_loopw [9] (fun i wr => ∃ k : Nat, k ≤ s.plan.steps.length ∧ i = .int .i64 k ∧ Hid (∀ j, j < s.plan.steps.length → j < k → barsB s j = false) ∧ Hid (Below w2.heap.size w2 wr)) (fun i _ => s.plan.steps.length - (intOf i).toNat)
  case atStart => exact ⟨0, Nat.zero_le _, rfl, Lib.hid (fun j _ h => absurd h (Nat.not_lt_zero _)), Lib.hid (Below.refl _ _)⟩
  case round =>
    obtain ⟨k, hk, rfl, hall, HB⟩ := hrel
    have HBB := Lib.hid (HB2.out.trans (HB.out.mono HB2.out.size))
    by_cases hlt : k < s.plan.steps.length
    · obtain ⟨ad, he, g0, g1⟩ := (H.out.p.s.below HB.out).at_ k hlt
      obtain rfl : A = some ad := he
      have hgd : s.plan.steps.getD k (0, 0) = s.plan.steps[k] := by rw [List.getD_eq_getElem?_getD, List.getElem?_eq_getElem hlt]; rfl
      have k7 := keep_cell HB.out HC.out.2
      have hext : ∀ o : Obj, Below wr.heap.size wr (wr.alloc o) := fun o => (Below.refl _ _).alloc (Nat.le_refl _) _
      have HX := Lib.hid hext
      clear hext
      by_cases h3 : s.plan.steps[k].2 = 3
      · have hd : (s.plan.steps[k].2 == 3) = true := by simp [h3]
        have HN : Hid (∀ j, j < s.plan.steps.length → j < k + 1 → barsB s j = false) := Lib.hid (fun j hj h => by
          by_cases e : j = k
          · subst e; unfold barsB; rw [hgd, h3]; rfl
          · exact hall.out j hj (by omega))
        have HD := Lib.hid hd
        clear h3 hgd hall hd
        go_wp2_with (go_at_call 23; refine (last_any _ _ _).mono ?_; rw [HD.out]; rintro e w' ⟨rfl, hb⟩; have HB5 := Lib.hid (HB.out.trans (((HX.out _).trans (hb.mono (HX.out _).size)).mono HB.out.size)); clear hb)
        go_roundw
        case rel => exact ⟨k + 1, by omega, by go_num, HN, HB5⟩
        case measure => simp [intOf]; omega
      · have hd : (s.plan.steps[k].2 == 3) = false := by simp [h3]
        have HD := Lib.hid hd
        cases hv : hasB s.dn k
        · have HR := Lib.hid (marks_no hlt (by unfold barsB; rw [hgd, hv]; simp [h3]))
          have HV := Lib.hid hv
          clear h3 hgd hall hd hv
          go_wp2_with (first | (go_at_call 23; refine (last_any _ _ _).mono ?_; rw [HD.out]; rintro e w' ⟨rfl, hb⟩; have HB5 := Lib.hid (HB.out.trans (((HX.out _).trans (hb.mono (HX.out _).size)).mono HB.out.size)); have k7' := keep_cell HB5.out HC.out.2; clear hb) | (go_at_call 24; refine (contains_any d s.dn k _ (H.out.d.below HB5.out) (by omega)).mono ?_; rw [HV.out]; rintro e w6 ⟨rfl, rfl⟩))
          go_ret
          exact ⟨by rw [HR.out]; rfl, HB2.out.trans (HB5.out.mono HB2.out.size)⟩
        · have HN : Hid (∀ j, j < s.plan.steps.length → j < k + 1 → barsB s j = false) := Lib.hid (fun j hj h => by
            by_cases e : j = k
            · subst e; simp [barsB, hv]
            · exact hall.out j hj (by omega))
          have HV := Lib.hid hv
          clear h3 hgd hall hd hv
          go_wp2_with (first | (go_at_call 23; refine (last_any _ _ _).mono ?_; rw [HD.out]; rintro e w' ⟨rfl, hb⟩; have HB5 := Lib.hid (HB.out.trans (((HX.out _).trans (hb.mono (HX.out _).size)).mono HB.out.size)); have k7' := keep_cell HB5.out HC.out.2; clear hb) | (go_at_call 24; refine (contains_any d s.dn k _ (H.out.d.below HB5.out) (by omega)).mono ?_; rw [HV.out]; rintro e w6 ⟨rfl, rfl⟩))
          go_roundw
          case rel => exact ⟨k + 1, by omega, by go_num, HN, HB5⟩
          case measure => simp [intOf]; omega
    · have HR := Lib.hid (marks_end (s := s) (fun j hj => hall.out j hj (by omega)))
      have k1 := keep_cell HB.out HC.out.1
      clear hall
      go_wp2
      go_ret
      exact ⟨ret_bool (by rw [HR.out]), HBB.out⟩
end Go.Proofs.YtedalanhjhiehaaDoor
