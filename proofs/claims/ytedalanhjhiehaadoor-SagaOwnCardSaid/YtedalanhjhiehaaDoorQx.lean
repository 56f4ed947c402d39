import Derived.Test.YtedalanhjhiehaaDoorQv
set_option linter.unusedSimpArgs false
namespace Go.Proofs.YtedalanhjhiehaaDoor
open Go.RowKit
open YtedalanhjhiehaaDoorW.PrintWords (nums ReadsInt rd own_slice own_typed Kd)

@[reducible] def recCells (v : PV) (r : RecP) : Array Value := #[.int .i64 r.kind, .int .i64 r.step, v.f.v r.plan.fr.length, v.t.v r.plan.tt.length, v.s.v r.plan.steps.length, v.b.v r.plan.before.length]
def undoB (s : StateP) (st : Int) : Bool := (topP s).2 && (topP s).1 == st
/-- what a record is answered, its form and the phase being right -/
def askE (s : StateP) (r : RecP) : Int :=
  if r.kind = 1 then errOf (beginsB r.plan) 45 else if r.kind = 2 then errOf (mayK s r.step) 71 else if r.kind = 3 then errOf (hasB s.op r.step) 71 else if r.kind = 4 then errOf (hasB s.op r.step) 71
  else if r.kind = 6 then errOf (undoB s r.step) 71 else if r.kind = 7 then errOf (marksB s) 72 else if r.kind = 8 then errOf (endsB s) 72 else 0

set_option maxHeartbeats 16000000 in
theorem ask_any (v : SV) (s : StateP) (u : PV) (r : RecP) (w : World) (h : RdSt w v s) (hl : LensS s) (hr : RdPlan w u r.plan) (hlr : Lens r.plan) (hT : Tab w) (hk1 : 1 ≤ r.kind) (hk8 : r.kind ≤ 8) :
    Calls Tryd.prog 19 #[stV v s, recV u r] w (Ret w (.int .i64 (askE s r))) := by
  obtain ⟨w3, hw3⟩ : ∃ w3, w3 = (w.alloc (.cells (stCells v s) 34)).alloc (.cells (recCells u r) 39) := ⟨_, rfl⟩
  have hb3 : Below w.heap.size w w3 := by rw [hw3]; exact below_of_alloc2 _ _ _
  have hx := alloc2_fst w (.cells (stCells v s) 34) (.cells (recCells u r) 39)
  have hy := alloc2_snd w (.cells (stCells v s) 34) (.cells (recCells u r) 39)
  rw [← hw3] at hx hy
  have d1 : w3.cell? ⟨w.heap.size + 1, 1, none⟩ = some (.int .i64 r.step) := by rw [cell_at hy]; rfl
  have H := Lib.hid (h.below hb3)
  have HR := Lib.hid (hr.below hb3)
  have HT := Lib.hid (hT.below hb3)
  have HB3 := Lib.hid hb3
  have HL := Lib.hid (And.intro hl hlr)
  have HD := Lib.hid d1
  have HF : Hid (∀ (x : Int) (w5 : World), askE s r = x → Below w3.heap.size w3 w5 → Ret w (.int .i64 (askE s r)) (.returned (.int .i64 x)) w5) := Lib.hid (fun x w5 he hb => ⟨by rw [he], HB3.out.trans (hb.mono HB3.out.size)⟩)
  clear h hr hT hb3 hx hy hl hlr d1
  unfold stV recV stCells recCells SL.v at *
  have hk : r.kind = 1 ∨ r.kind = 2 ∨ r.kind = 3 ∨ r.kind = 4 ∨ r.kind = 5 ∨ r.kind = 6 ∨ r.kind = 7 ∨ r.kind = 8 := by omega
  clear hk1 hk8
  rcases hk with hk | hk | hk | hk | hk | hk | hk | hk
  · cases hX : beginsB r.plan
    · have HX := Lib.hid hX
      have HE : Hid (askE s r = 45) := Lib.hid (by unfold askE; simp only [hk]; first | rfl | (simp [hX, errOf]))
      clear hX
      have e1 : (r.kind == 1) = true := by rw [hk]; rfl
      clear hk
      go_enter Tryd.func19, Tryd.ntmps19
      go_wp2_with (go_at_call 29; rw [← hw3]; clear hw3; refine (begins_any u r.plan _ HR.out HL.out.2 HT.out).mono ?_; rw [HX.out]; rintro e w5 ⟨rfl, hb⟩; have HB5 := Lib.hid hb; have kd := keep_cell hb HD.out; clear hb)
      go_ret
      exact HF.out _ _ HE.out HB5.out
    · have HX := Lib.hid hX
      have HE : Hid (askE s r = 0) := Lib.hid (by unfold askE; simp only [hk]; first | rfl | (simp [hX, errOf]))
      clear hX
      have e1 : (r.kind == 1) = true := by rw [hk]; rfl
      clear hk
      go_enter Tryd.func19, Tryd.ntmps19
      go_wp2_with (go_at_call 29; rw [← hw3]; clear hw3; refine (begins_any u r.plan _ HR.out HL.out.2 HT.out).mono ?_; rw [HX.out]; rintro e w5 ⟨rfl, hb⟩; have HB5 := Lib.hid hb; have kd := keep_cell hb HD.out; clear hb)
      go_ret
      exact HF.out _ _ HE.out HB5.out
  · cases hX : mayK s r.step
    · have HX := Lib.hid hX
      have HE : Hid (askE s r = 71) := Lib.hid (by unfold askE; simp only [hk]; first | rfl | (simp [hX, errOf]))
      clear hX
      have e1 : (r.kind == 1) = false := by rw [hk]; rfl
      have e2 : (r.kind == 2) = true := by rw [hk]; rfl
      clear hk
      go_enter Tryd.func19, Tryd.ntmps19
      go_wp2_with (go_at_call 10; rw [← hw3]; clear hw3; refine (may_any v s r.step _ H.out HL.out.1).mono ?_; rw [HX.out]; rintro e w5 ⟨rfl, hb⟩; have HB5 := Lib.hid hb; have kd := keep_cell hb HD.out; clear hb)
      go_ret
      exact HF.out _ _ HE.out HB5.out
    · have HX := Lib.hid hX
      have HE : Hid (askE s r = 0) := Lib.hid (by unfold askE; simp only [hk]; first | rfl | (simp [hX, errOf]))
      clear hX
      have e1 : (r.kind == 1) = false := by rw [hk]; rfl
      have e2 : (r.kind == 2) = true := by rw [hk]; rfl
      clear hk
      go_enter Tryd.func19, Tryd.ntmps19
      go_wp2_with (go_at_call 10; rw [← hw3]; clear hw3; refine (may_any v s r.step _ H.out HL.out.1).mono ?_; rw [HX.out]; rintro e w5 ⟨rfl, hb⟩; have HB5 := Lib.hid hb; have kd := keep_cell hb HD.out; clear hb)
      go_ret
      exact HF.out _ _ HE.out HB5.out
  · cases hX : hasB s.op r.step
    · have HX := Lib.hid hX
      have HE : Hid (askE s r = 71) := Lib.hid (by unfold askE; simp only [hk]; first | rfl | (simp [hX, errOf]))
      clear hX
      have e1 : (r.kind == 1) = false := by rw [hk]; rfl
      have e2 : (r.kind == 2) = false := by rw [hk]; rfl
      have e3 : (r.kind == 3) = true := by rw [hk]; rfl
      clear hk
      go_enter Tryd.func19, Tryd.ntmps19
      go_wp2_with (go_at_call 24; rw [← hw3]; clear hw3; refine (contains_any v.o s.op r.step _ H.out.o (by have := HL.out.1.o; omega)).mono ?_; rw [HX.out]; rintro e w5 ⟨rfl, rfl⟩; have HB5 := Lib.hid (Below.refl w3.heap.size w3))
      go_ret
      exact HF.out _ _ HE.out HB5.out
    · have HX := Lib.hid hX
      have HE : Hid (askE s r = 0) := Lib.hid (by unfold askE; simp only [hk]; first | rfl | (simp [hX, errOf]))
      clear hX
      have e1 : (r.kind == 1) = false := by rw [hk]; rfl
      have e2 : (r.kind == 2) = false := by rw [hk]; rfl
      have e3 : (r.kind == 3) = true := by rw [hk]; rfl
      clear hk
      go_enter Tryd.func19, Tryd.ntmps19
      go_wp2_with (go_at_call 24; rw [← hw3]; clear hw3; refine (contains_any v.o s.op r.step _ H.out.o (by have := HL.out.1.o; omega)).mono ?_; rw [HX.out]; rintro e w5 ⟨rfl, rfl⟩; have HB5 := Lib.hid (Below.refl w3.heap.size w3))
      go_ret
      exact HF.out _ _ HE.out HB5.out
  · cases hX : hasB s.op r.step
    · have HX := Lib.hid hX
      have HE : Hid (askE s r = 71) := Lib.hid (by unfold askE; simp only [hk]; first | rfl | (simp [hX, errOf]))
      clear hX
      have e1 : (r.kind == 1) = false := by rw [hk]; rfl
      have e2 : (r.kind == 2) = false := by rw [hk]; rfl
      have e3 : (r.kind == 3) = false := by rw [hk]; rfl
      have e4 : (r.kind == 4) = true := by rw [hk]; rfl
      clear hk
      go_enter Tryd.func19, Tryd.ntmps19
      go_wp2_with (go_at_call 24; rw [← hw3]; clear hw3; refine (contains_any v.o s.op r.step _ H.out.o (by have := HL.out.1.o; omega)).mono ?_; rw [HX.out]; rintro e w5 ⟨rfl, rfl⟩; have HB5 := Lib.hid (Below.refl w3.heap.size w3))
      go_ret
      exact HF.out _ _ HE.out HB5.out
    · have HX := Lib.hid hX
      have HE : Hid (askE s r = 0) := Lib.hid (by unfold askE; simp only [hk]; first | rfl | (simp [hX, errOf]))
      clear hX
      have e1 : (r.kind == 1) = false := by rw [hk]; rfl
      have e2 : (r.kind == 2) = false := by rw [hk]; rfl
      have e3 : (r.kind == 3) = false := by rw [hk]; rfl
      have e4 : (r.kind == 4) = true := by rw [hk]; rfl
      clear hk
      go_enter Tryd.func19, Tryd.ntmps19
      go_wp2_with (go_at_call 24; rw [← hw3]; clear hw3; refine (contains_any v.o s.op r.step _ H.out.o (by have := HL.out.1.o; omega)).mono ?_; rw [HX.out]; rintro e w5 ⟨rfl, rfl⟩; have HB5 := Lib.hid (Below.refl w3.heap.size w3))
      go_ret
      exact HF.out _ _ HE.out HB5.out
  · have HE : Hid (askE s r = 0) := Lib.hid (by unfold askE; simp only [hk]; rfl)
    have e1 : (r.kind == 1) = false := by rw [hk]; rfl
    have e2 : (r.kind == 2) = false := by rw [hk]; rfl
    have e3 : (r.kind == 3) = false := by rw [hk]; rfl
    have e4 : (r.kind == 4) = false := by rw [hk]; rfl
    have e6 : (r.kind == 6) = false := by rw [hk]; rfl
    have e7 : (r.kind == 7) = false := by rw [hk]; rfl
    have e8 : (r.kind == 8) = false := by rw [hk]; rfl
    clear hk
    go_enter Tryd.func19, Tryd.ntmps19
    go_wp2
    rw [← hw3]
    go_ret
    exact HF.out _ _ HE.out (Below.refl _ _)
  · obtain ⟨tp, th, htp⟩ : ∃ tp th, topP s = (tp, th) := ⟨_, _, rfl⟩
    have HTP := Lib.hid htp
    cases th with
    | false =>
      have HE : Hid (askE s r = 71) := Lib.hid (by unfold askE; simp only [hk]; simp [undoB, htp, errOf])
      have e1 : (r.kind == 1) = false := by rw [hk]; rfl
      have e2 : (r.kind == 2) = false := by rw [hk]; rfl
      have e3 : (r.kind == 3) = false := by rw [hk]; rfl
      have e4 : (r.kind == 4) = false := by rw [hk]; rfl
      have e6 : (r.kind == 6) = true := by rw [hk]; rfl
      clear htp hk
      go_enter Tryd.func19, Tryd.ntmps19
      go_wp2_with (go_at_call 11; rw [← hw3]; clear hw3; refine (top_any v s _ H.out HL.out.1).mono ?_; rintro e w5 ⟨he, hb⟩; rw [HTP.out] at he; obtain rfl := he; have HB5 := Lib.hid hb; have kd := keep_cell hb HD.out; clear hb)
      go_ret
      exact HF.out _ _ HE.out HB5.out
    | true =>
      by_cases hst : tp = r.step
      · have HE : Hid (askE s r = 0) := Lib.hid (by unfold askE; simp only [hk]; simp [undoB, htp, errOf, hst])
        have hd : (tp == r.step) = true := by simp [hst]
        have e1 : (r.kind == 1) = false := by rw [hk]; rfl
        have e2 : (r.kind == 2) = false := by rw [hk]; rfl
        have e3 : (r.kind == 3) = false := by rw [hk]; rfl
        have e4 : (r.kind == 4) = false := by rw [hk]; rfl
        have e6 : (r.kind == 6) = true := by rw [hk]; rfl
        clear htp hst hk
        go_enter Tryd.func19, Tryd.ntmps19
        go_wp2_with (go_at_call 11; rw [← hw3]; clear hw3; refine (top_any v s _ H.out HL.out.1).mono ?_; rintro e w5 ⟨he, hb⟩; rw [HTP.out] at he; obtain rfl := he; have HB5 := Lib.hid hb; have kd := keep_cell hb HD.out; clear hb)
        go_ret
        exact HF.out _ _ HE.out HB5.out
      · have HE : Hid (askE s r = 71) := Lib.hid (by unfold askE; simp only [hk]; simp [undoB, htp, errOf, hst])
        have hd : (tp == r.step) = false := by simp [hst]
        have e1 : (r.kind == 1) = false := by rw [hk]; rfl
        have e2 : (r.kind == 2) = false := by rw [hk]; rfl
        have e3 : (r.kind == 3) = false := by rw [hk]; rfl
        have e4 : (r.kind == 4) = false := by rw [hk]; rfl
        have e6 : (r.kind == 6) = true := by rw [hk]; rfl
        clear htp hst hk
        go_enter Tryd.func19, Tryd.ntmps19
        go_wp2_with (go_at_call 11; rw [← hw3]; clear hw3; refine (top_any v s _ H.out HL.out.1).mono ?_; rintro e w5 ⟨he, hb⟩; rw [HTP.out] at he; obtain rfl := he; have HB5 := Lib.hid hb; have kd := keep_cell hb HD.out; clear hb)
        go_ret
        exact HF.out _ _ HE.out HB5.out
  · cases hX : marksB s
    · have HX := Lib.hid hX
      have HE : Hid (askE s r = 72) := Lib.hid (by unfold askE; simp only [hk]; first | rfl | (simp [hX, errOf]))
      clear hX
      have e1 : (r.kind == 1) = false := by rw [hk]; rfl
      have e2 : (r.kind == 2) = false := by rw [hk]; rfl
      have e3 : (r.kind == 3) = false := by rw [hk]; rfl
      have e4 : (r.kind == 4) = false := by rw [hk]; rfl
      have e6 : (r.kind == 6) = false := by rw [hk]; rfl
      have e7 : (r.kind == 7) = true := by rw [hk]; rfl
      clear hk
      go_enter Tryd.func19, Tryd.ntmps19
      go_wp2_with (go_at_call 9; rw [← hw3]; clear hw3; refine (marks_any v s _ H.out HL.out.1).mono ?_; rw [HX.out]; rintro e w5 ⟨rfl, hb⟩; have HB5 := Lib.hid hb; have kd := keep_cell hb HD.out; clear hb)
      go_ret
      exact HF.out _ _ HE.out HB5.out
    · have HX := Lib.hid hX
      have HE : Hid (askE s r = 0) := Lib.hid (by unfold askE; simp only [hk]; first | rfl | (simp [hX, errOf]))
      clear hX
      have e1 : (r.kind == 1) = false := by rw [hk]; rfl
      have e2 : (r.kind == 2) = false := by rw [hk]; rfl
      have e3 : (r.kind == 3) = false := by rw [hk]; rfl
      have e4 : (r.kind == 4) = false := by rw [hk]; rfl
      have e6 : (r.kind == 6) = false := by rw [hk]; rfl
      have e7 : (r.kind == 7) = true := by rw [hk]; rfl
      clear hk
      go_enter Tryd.func19, Tryd.ntmps19
      go_wp2_with (go_at_call 9; rw [← hw3]; clear hw3; refine (marks_any v s _ H.out HL.out.1).mono ?_; rw [HX.out]; rintro e w5 ⟨rfl, hb⟩; have HB5 := Lib.hid hb; have kd := keep_cell hb HD.out; clear hb)
      go_ret
      exact HF.out _ _ HE.out HB5.out
  · cases hX : endsB s
    · have HX := Lib.hid hX
      have HE : Hid (askE s r = 72) := Lib.hid (by unfold askE; simp only [hk]; first | rfl | (simp [hX, errOf]))
      clear hX
      have e1 : (r.kind == 1) = false := by rw [hk]; rfl
      have e2 : (r.kind == 2) = false := by rw [hk]; rfl
      have e3 : (r.kind == 3) = false := by rw [hk]; rfl
      have e4 : (r.kind == 4) = false := by rw [hk]; rfl
      have e6 : (r.kind == 6) = false := by rw [hk]; rfl
      have e7 : (r.kind == 7) = false := by rw [hk]; rfl
      have e8 : (r.kind == 8) = true := by rw [hk]; rfl
      clear hk
      go_enter Tryd.func19, Tryd.ntmps19
      go_wp2_with (go_at_call 12; rw [← hw3]; clear hw3; refine (ends_any v s _ HL.out.1).mono ?_; rw [HX.out]; rintro e w5 ⟨rfl, hb⟩; have HB5 := Lib.hid hb; have kd := keep_cell hb HD.out; clear hb)
      go_ret
      exact HF.out _ _ HE.out HB5.out
    · have HX := Lib.hid hX
      have HE : Hid (askE s r = 0) := Lib.hid (by unfold askE; simp only [hk]; first | rfl | (simp [hX, errOf]))
      clear hX
      have e1 : (r.kind == 1) = false := by rw [hk]; rfl
      have e2 : (r.kind == 2) = false := by rw [hk]; rfl
      have e3 : (r.kind == 3) = false := by rw [hk]; rfl
      have e4 : (r.kind == 4) = false := by rw [hk]; rfl
      have e6 : (r.kind == 6) = false := by rw [hk]; rfl
      have e7 : (r.kind == 7) = false := by rw [hk]; rfl
      have e8 : (r.kind == 8) = true := by rw [hk]; rfl
      clear hk
      go_enter Tryd.func19, Tryd.ntmps19
      go_wp2_with (go_at_call 12; rw [← hw3]; clear hw3; refine (ends_any v s _ HL.out.1).mono ?_; rw [HX.out]; rintro e w5 ⟨rfl, hb⟩; have HB5 := Lib.hid hb; have kd := keep_cell hb HD.out; clear hb)
      go_ret
      exact HF.out _ _ HE.out HB5.out
end Go.Proofs.YtedalanhjhiehaaDoor
