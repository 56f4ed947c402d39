import Derived.Test.YtedalanhjhiehaaDoorQu
set_option linter.unusedSimpArgs false
namespace Go.Proofs.YtedalanhjhiehaaDoor
open Go.RowKit
open YtedalanhjhiehaaDoorW.PrintWords (nums ReadsInt rd own_slice own_typed Kd)

/-- does the phase let such a step? -/
def phaseB (ph kind : Int) : Bool := (ph == 1 && !(kind == 3)) || (ph == 3 && kind == 3)
def mayK (s : StateP) (st : Int) : Bool :=
  decide (0 ≤ st) && decide (st < s.plan.steps.length) && !hasB s.op st && !hasB s.dn st && phaseB s.ph (s.plan.steps.getD st.toNat (0, 0)).2 && !s.plan.before.any (lacksB s.dn st)

set_option maxHeartbeats 4000000 in
theorem may_any (v : SV) (s : StateP) (st : Int) (w : World) (h : RdSt w v s) (hl : LensS s) : Calls Tryd.prog 10 #[stV v s, .int .i64 st] w (Ret w (.bool (mayK s st))) := by
  obtain ⟨⟨f, t, ⟨A, cp⟩, b⟩, o, d⟩ := v
  obtain ⟨w3, hw3⟩ : ∃ w3, w3 = (w.alloc (.cells (stCells ⟨⟨f, t, ⟨A, cp⟩, b⟩, o, d⟩ s) 34)).alloc (.cells #[.int .i64 st] 3) := ⟨_, rfl⟩
  have hb3 : Below w.heap.size w w3 := by rw [hw3]; exact below_of_alloc2 _ _ _
  have hx := alloc2_fst w (.cells (stCells ⟨⟨f, t, ⟨A, cp⟩, b⟩, o, d⟩ s) 34) (.cells #[.int .i64 st] 3)
  have hy := alloc2_snd w (.cells (stCells ⟨⟨f, t, ⟨A, cp⟩, b⟩, o, d⟩ s) 34) (.cells #[.int .i64 st] 3)
  rw [← hw3] at hx hy
  have c1 : w3.cell? ⟨w.heap.size, 1, none⟩ = some (.int .i64 s.ph) := by rw [cell_at hx]; rfl
  have c4 : w3.cell? ⟨w.heap.size, 4, none⟩ = some (SL.v ⟨A, cp⟩ s.plan.steps.length) := by rw [cell_at hx]; rfl
  have c5 : w3.cell? ⟨w.heap.size, 5, none⟩ = some (b.v s.plan.before.length) := by rw [cell_at hx]; rfl
  have c6 : w3.cell? ⟨w.heap.size, 6, none⟩ = some (o.v s.op.length) := by rw [cell_at hx]; rfl
  have c7 : w3.cell? ⟨w.heap.size, 7, none⟩ = some (d.v s.dn.length) := by rw [cell_at hx]; rfl
  have d0 : w3.cell? ⟨w.heap.size + 1, 0, none⟩ = some (.int .i64 st) := by rw [cell_at hy]; rfl
  have H := Lib.hid (h.below hb3)
  have HB3 := Lib.hid hb3
  have HC := Lib.hid (And.intro c1 (And.intro c5 (And.intro c7 d0)))
  have hls := hl.p.s
  have hlb := hl.p.b
  have hlo := hl.o
  have hld := hl.d
  clear h hb3 hx hy hl
  have fin : ∀ {x : Bool}, mayK s st = x → Ret w (.bool (mayK s st)) (.returned (.bool x)) w3 := fun he => ⟨by rw [he], HB3.out⟩
  unfold stV stCells SL.v at *
  dsimp only at *
  by_cases h1 : st < 0
  · have HR := Lib.hid (fin (x := false) (by simp [mayK]; omega))
    clear fin
    go_enter Tryd.func10, Tryd.ntmps10
    go_wp2
    rw [← hw3]
    go_ret
    exact HR.out
  obtain ⟨k, rfl⟩ := Int.eq_ofNat_of_zero_le (show 0 ≤ st by omega)
  by_cases h2 : ¬ k < s.plan.steps.length
  · have HR := Lib.hid (fin (x := false) (by simp [mayK]; omega))
    clear fin
    go_enter Tryd.func10, Tryd.ntmps10
    go_wp2
    rw [← hw3]
    go_ret
    exact HR.out
  have hlt : k < s.plan.steps.length := Decidable.not_not.1 h2
  clear h1 h2
  have hgd : s.plan.steps.getD ((k : Int)).toNat (0, 0) = s.plan.steps[k] := by rw [Int.toNat_natCast, List.getD_eq_getElem?_getD, List.getElem?_eq_getElem hlt]; rfl
  have hk0 : decide (0 ≤ (k : Int)) = true := by simp
  have hk1 : decide ((k : Int) < s.plan.steps.length) = true := by simp; exact hlt
  obtain ⟨ad, he, g0, g1⟩ := H.out.p.s.at_ k hlt
  obtain rfl : A = some ad := he
  cases h3 : hasB s.op k with
  | true =>
    have HR := Lib.hid (fin (x := false) (by simp [mayK, h3]))
    have H3 := Lib.hid h3
    clear fin h3 hgd hk0 hk1
    go_enter Tryd.func10, Tryd.ntmps10
    go_wp2_with (go_at_call 24; rw [← hw3]; clear hw3; refine (contains_any o s.op _ _ H.out.o (by omega)).mono ?_; rw [H3.out]; rintro e w' ⟨rfl, rfl⟩)
    go_ret
    exact HR.out
  | false =>
  cases h4 : hasB s.dn k with
  | true =>
    have HR := Lib.hid (fin (x := false) (by simp [mayK, h4]))
    have H3 := Lib.hid h3
    have H4 := Lib.hid h4
    clear fin h3 h4 hgd hk0 hk1
    go_enter Tryd.func10, Tryd.ntmps10
    go_wp2_with (first | (go_at_call 24; rw [← hw3]; clear hw3; refine (contains_any o s.op _ _ H.out.o (by omega)).mono ?_; rw [H3.out]; rintro e w' ⟨rfl, rfl⟩) | (go_at_call 24; refine (contains_any d s.dn _ _ H.out.d (by omega)).mono ?_; rw [H4.out]; rintro e w' ⟨rfl, rfl⟩))
    go_ret
    exact HR.out
  | false =>
  obtain ⟨l, hl5⟩ : ∃ l, (s.plan.steps[k].2 == 3) = l := ⟨_, rfl⟩
  have hpb : phaseB s.ph s.plan.steps[k].2 = ((s.ph == 1 && !l) || (s.ph == 3 && l)) := by unfold phaseB; rw [hl5]
  have HM : Hid (mayK s k = (((s.ph == 1 && !l) || (s.ph == 3 && l)) && !s.plan.before.any (lacksB s.dn k))) := Lib.hid (by unfold mayK; rw [hgd, hpb, h3, h4, hk0, hk1]; simp)
  have H3 := Lib.hid h3
  have H4 := Lib.hid h4
  have H5 := Lib.hid hl5
  have HF : Hid (∀ (x : Bool) (w5 : World), mayK s k = x → Below w3.heap.size w3 w5 → Ret w (.bool (mayK s k)) (.returned (.bool x)) w5) := Lib.hid (fun x w5 he hb => ⟨by rw [he], HB3.out.trans (hb.mono HB3.out.size)⟩)
  clear fin h3 h4 hl5 hpb hgd hk0 hk1
  have hph : s.ph = 1 ∨ s.ph = 3 ∨ (¬ s.ph = 1 ∧ ¬ s.ph = 3) := by omega
  cases l <;> rcases hph with hp | hp | ⟨hp, hp'⟩
  · have hp1 : (s.ph == 1) = true := by simp [hp]
    have HM2 : Hid (mayK s k = !s.plan.before.any (lacksB s.dn k)) := Lib.hid (by rw [HM.out, hp1]; simp)
    clear hp
    go_enter Tryd.func10, Tryd.ntmps10
    go_wp2_with (first | (go_at_call 24; rw [← hw3]; clear hw3; refine (contains_any o s.op _ _ H.out.o (by omega)).mono ?_; rw [H3.out]; rintro e w' ⟨rfl, rfl⟩) | (go_at_call 24; refine (contains_any d s.dn _ _ H.out.d (by omega)).mono ?_; rw [H4.out]; rintro e w' ⟨rfl, rfl⟩) | (go_at_call 23; refine (last_any _ _ _).mono ?_; rw [H5.out]; rintro e w5 ⟨rfl, hb⟩; have HB5 := Lib.hid hb; have k1 := keep_cell hb HC.out.1; have k5 := keep_cell hb HC.out.2.1; have k7 := keep_cell hb HC.out.2.2.1; have kd := keep_cell hb HC.out.2.2.2; have HA := Lib.hid (asks26 s.dn d k (w.heap.size + 1) w.heap.size w5 kd k7 (H.out.d.below hb) (by omega)); clear hb) | (go_at_call 25; refine (lacks_any b s.plan.before _ _ _ _ HA.out (H.out.p.b.below HB5.out) (by omega)).mono ?_; rintro e w6 ⟨rfl, hb⟩; have HB6 := Lib.hid (HB5.out.trans (hb.mono HB5.out.size)); clear hb))
    go_ret
    exact HF.out _ _ HM2.out HB6.out
  · have hp1 : (s.ph == 1) = false := by simp [hp]
    have hp2 : (s.ph == 3) = true := by simp [hp]
    have HM2 : Hid (mayK s k = false) := Lib.hid (by rw [HM.out, hp1]; simp)
    clear hp
    go_enter Tryd.func10, Tryd.ntmps10
    go_wp2_with (first | (go_at_call 24; rw [← hw3]; clear hw3; refine (contains_any o s.op _ _ H.out.o (by omega)).mono ?_; rw [H3.out]; rintro e w' ⟨rfl, rfl⟩) | (go_at_call 24; refine (contains_any d s.dn _ _ H.out.d (by omega)).mono ?_; rw [H4.out]; rintro e w' ⟨rfl, rfl⟩) | (go_at_call 23; refine (last_any _ _ _).mono ?_; rw [H5.out]; rintro e w5 ⟨rfl, hb⟩; have HB5 := Lib.hid hb; have k1 := keep_cell hb HC.out.1; have k5 := keep_cell hb HC.out.2.1; have k7 := keep_cell hb HC.out.2.2.1; have kd := keep_cell hb HC.out.2.2.2; have HA := Lib.hid (asks26 s.dn d k (w.heap.size + 1) w.heap.size w5 kd k7 (H.out.d.below hb) (by omega)); clear hb) | (go_at_call 25; refine (lacks_any b s.plan.before _ _ _ _ HA.out (H.out.p.b.below HB5.out) (by omega)).mono ?_; rintro e w6 ⟨rfl, hb⟩; have HB6 := Lib.hid (HB5.out.trans (hb.mono HB5.out.size)); clear hb))
    go_ret
    exact HF.out _ _ HM2.out HB5.out
  · have hp1 : (s.ph == 1) = false := by simp [hp]
    have hp2 : (s.ph == 3) = false := by simp [hp']
    have HM2 : Hid (mayK s k = false) := Lib.hid (by rw [HM.out, hp1]; simp)
    clear hp hp'
    go_enter Tryd.func10, Tryd.ntmps10
    go_wp2_with (first | (go_at_call 24; rw [← hw3]; clear hw3; refine (contains_any o s.op _ _ H.out.o (by omega)).mono ?_; rw [H3.out]; rintro e w' ⟨rfl, rfl⟩) | (go_at_call 24; refine (contains_any d s.dn _ _ H.out.d (by omega)).mono ?_; rw [H4.out]; rintro e w' ⟨rfl, rfl⟩) | (go_at_call 23; refine (last_any _ _ _).mono ?_; rw [H5.out]; rintro e w5 ⟨rfl, hb⟩; have HB5 := Lib.hid hb; have k1 := keep_cell hb HC.out.1; have k5 := keep_cell hb HC.out.2.1; have k7 := keep_cell hb HC.out.2.2.1; have kd := keep_cell hb HC.out.2.2.2; have HA := Lib.hid (asks26 s.dn d k (w.heap.size + 1) w.heap.size w5 kd k7 (H.out.d.below hb) (by omega)); clear hb) | (go_at_call 25; refine (lacks_any b s.plan.before _ _ _ _ HA.out (H.out.p.b.below HB5.out) (by omega)).mono ?_; rintro e w6 ⟨rfl, hb⟩; have HB6 := Lib.hid (HB5.out.trans (hb.mono HB5.out.size)); clear hb))
    go_ret
    exact HF.out _ _ HM2.out HB5.out
  · have hp1 : (s.ph == 1) = true := by simp [hp]
    have hp2 : (s.ph == 3) = false := by simp [hp]
    have HM2 : Hid (mayK s k = false) := Lib.hid (by rw [HM.out, hp2]; simp)
    clear hp
    go_enter Tryd.func10, Tryd.ntmps10
    go_wp2_with (first | (go_at_call 24; rw [← hw3]; clear hw3; refine (contains_any o s.op _ _ H.out.o (by omega)).mono ?_; rw [H3.out]; rintro e w' ⟨rfl, rfl⟩) | (go_at_call 24; refine (contains_any d s.dn _ _ H.out.d (by omega)).mono ?_; rw [H4.out]; rintro e w' ⟨rfl, rfl⟩) | (go_at_call 23; refine (last_any _ _ _).mono ?_; rw [H5.out]; rintro e w5 ⟨rfl, hb⟩; have HB5 := Lib.hid hb; have k1 := keep_cell hb HC.out.1; have k5 := keep_cell hb HC.out.2.1; have k7 := keep_cell hb HC.out.2.2.1; have kd := keep_cell hb HC.out.2.2.2; have HA := Lib.hid (asks26 s.dn d k (w.heap.size + 1) w.heap.size w5 kd k7 (H.out.d.below hb) (by omega)); clear hb) | (go_at_call 25; refine (lacks_any b s.plan.before _ _ _ _ HA.out (H.out.p.b.below HB5.out) (by omega)).mono ?_; rintro e w6 ⟨rfl, hb⟩; have HB6 := Lib.hid (HB5.out.trans (hb.mono HB5.out.size)); clear hb))
    go_ret
    exact HF.out _ _ HM2.out HB5.out
  · have hp1 : (s.ph == 1) = false := by simp [hp]
    have hp2 : (s.ph == 3) = true := by simp [hp]
    have HM2 : Hid (mayK s k = !s.plan.before.any (lacksB s.dn k)) := Lib.hid (by rw [HM.out, hp2]; simp)
    clear hp
    go_enter Tryd.func10, Tryd.ntmps10
    go_wp2_with (first | (go_at_call 24; rw [← hw3]; clear hw3; refine (contains_any o s.op _ _ H.out.o (by omega)).mono ?_; rw [H3.out]; rintro e w' ⟨rfl, rfl⟩) | (go_at_call 24; refine (contains_any d s.dn _ _ H.out.d (by omega)).mono ?_; rw [H4.out]; rintro e w' ⟨rfl, rfl⟩) | (go_at_call 23; refine (last_any _ _ _).mono ?_; rw [H5.out]; rintro e w5 ⟨rfl, hb⟩; have HB5 := Lib.hid hb; have k1 := keep_cell hb HC.out.1; have k5 := keep_cell hb HC.out.2.1; have k7 := keep_cell hb HC.out.2.2.1; have kd := keep_cell hb HC.out.2.2.2; have HA := Lib.hid (asks26 s.dn d k (w.heap.size + 1) w.heap.size w5 kd k7 (H.out.d.below hb) (by omega)); clear hb) | (go_at_call 25; refine (lacks_any b s.plan.before _ _ _ _ HA.out (H.out.p.b.below HB5.out) (by omega)).mono ?_; rintro e w6 ⟨rfl, hb⟩; have HB6 := Lib.hid (HB5.out.trans (hb.mono HB5.out.size)); clear hb))
    go_ret
    exact HF.out _ _ HM2.out HB6.out
  · have hp1 : (s.ph == 1) = false := by simp [hp]
    have hp2 : (s.ph == 3) = false := by simp [hp']
    have HM2 : Hid (mayK s k = false) := Lib.hid (by rw [HM.out, hp2, hp1]; simp)
    clear hp hp'
    go_enter Tryd.func10, Tryd.ntmps10
    go_wp2_with (first | (go_at_call 24; rw [← hw3]; clear hw3; refine (contains_any o s.op _ _ H.out.o (by omega)).mono ?_; rw [H3.out]; rintro e w' ⟨rfl, rfl⟩) | (go_at_call 24; refine (contains_any d s.dn _ _ H.out.d (by omega)).mono ?_; rw [H4.out]; rintro e w' ⟨rfl, rfl⟩) | (go_at_call 23; refine (last_any _ _ _).mono ?_; rw [H5.out]; rintro e w5 ⟨rfl, hb⟩; have HB5 := Lib.hid hb; have k1 := keep_cell hb HC.out.1; have k5 := keep_cell hb HC.out.2.1; have k7 := keep_cell hb HC.out.2.2.1; have kd := keep_cell hb HC.out.2.2.2; have HA := Lib.hid (asks26 s.dn d k (w.heap.size + 1) w.heap.size w5 kd k7 (H.out.d.below hb) (by omega)); clear hb) | (go_at_call 25; refine (lacks_any b s.plan.before _ _ _ _ HA.out (H.out.p.b.below HB5.out) (by omega)).mono ?_; rintro e w6 ⟨rfl, hb⟩; have HB6 := Lib.hid (HB5.out.trans (hb.mono HB5.out.size)); clear hb))
    go_ret
    exact HF.out _ _ HM2.out HB5.out
end Go.Proofs.YtedalanhjhiehaaDoor
