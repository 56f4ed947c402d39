import Derived.Test.YtedalanhjhiehaaDoorQx
import Derived.Deep.DeepCutAuto
set_option linter.unusedSimpArgs false
set_option linter.unusedVariables false
namespace Go.Proofs.YtedalanhjhiehaaDoor
open Go.RowKit
open YtedalanhjhiehaaDoorW.PrintWords (nums ReadsInt rd own_slice own_typed Kd)

/-- the state behind a record that is taken -/
def nextS (s : StateP) (r : RecP) : StateP :=
  if r.kind = 1 then ⟨s.num + 1, 1, r.plan, [], []⟩
  else if r.kind = 2 then { s with op := s.op ++ [r.step] }
  else if r.kind = 3 then { s with op := dropL s.op r.step, dn := s.dn ++ [r.step] }
  else if r.kind = 4 ∨ r.kind = 5 then { s with ph := 2 }
  else if r.kind = 6 then { s with op := dropL s.op r.step, dn := dropL s.dn r.step }
  else if r.kind = 7 then { s with ph := 3 }
  else { s with ph := if s.ph = 3 then 4 else if s.ph = 2 then 5 else 0 }
def takeP (s : StateP) (r : RecP) : StateP × Int :=
  if formedB r = false then (noState, 12) else if whenB r.kind s.ph = false then (noState, 70) else if askE s r ≠ 0 then (noState, askE s r) else (nextS s r, 0)
def TkP (w : World) (x : StateP × Int) (e : Ending) (w' : World) : Prop := ∃ v' : SV, e = .returned (.tuple #[stV v' x.1, .int .i64 x.2]) ∧ OwSt w' w.heap.size v' x.1 ∧ Below w.heap.size w w'
def nilV : SV := ⟨⟨⟨none, 0⟩, ⟨none, 0⟩, ⟨none, 0⟩, ⟨none, 0⟩⟩, ⟨none, 0⟩, ⟨none, 0⟩⟩
theorem owSt_nil (w : World) (B : Nat) : OwSt w B nilV noState := ⟨owPlan_nil _ _, owI_nil _ _, owI_nil _ _⟩
theorem formed_kind {r : RecP} (h : formedB r = true) : 1 ≤ r.kind ∧ r.kind ≤ 8 := by
  simp only [formedB, Bool.and_eq_true, decide_eq_true_eq] at h
  exact ⟨h.1.1.1, h.1.1.2⟩
theorem below_alloc3 (w : World) (o1 o2 o3 : Obj) : Below w.heap.size w (((w.alloc o1).alloc o2).alloc o3) := (below_of_alloc2 w o1 o2).alloc (by simp; omega) _
theorem alloc3_fst (w : World) (o1 o2 o3 : Obj) : (((w.alloc o1).alloc o2).alloc o3).heap[w.heap.size]? = some o1 := by
  rw [((Below.refl _ _).alloc (Nat.le_refl _) o3 : Below ((w.alloc o1).alloc o2).heap.size _ _).block _ (by simp; omega)]
  exact alloc2_fst w o1 o2
theorem alloc3_snd (w : World) (o1 o2 o3 : Obj) : (((w.alloc o1).alloc o2).alloc o3).heap[w.heap.size + 1]? = some o2 := by
  rw [((Below.refl _ _).alloc (Nat.le_refl _) o3 : Below ((w.alloc o1).alloc o2).heap.size _ _).block _ (by simp)]
  exact alloc2_snd w o1 o2
theorem alloc3_thd (w : World) (o1 o2 o3 : Obj) : (((w.alloc o1).alloc o2).alloc o3).heap[w.heap.size + 2]? = some o3 := by
  have := heap_alloc_new ((w.alloc o1).alloc o2) o3
  simpa using this

/-- the three variables of Take -/
structure Front (w w3 : World) (v : SV) (s : StateP) (u : PV) (r : RecP) : Prop where
  below : Below w.heap.size w w3
  st : w3.heap[w.heap.size]? = some (.cells (stCells v s) 34 (0, 0))
  rc : w3.heap[w.heap.size + 1]? = some (.cells (recCells u r) 39 (0, 0))
  rs : w3.heap[w.heap.size + 2]? = some (.cells stZero 34 (0, 0))
  size : w3.heap.size = w.heap.size + 3
theorem front_of (w : World) (v : SV) (s : StateP) (u : PV) (r : RecP) : Front w (((w.alloc (.cells (stCells v s) 34)).alloc (.cells (recCells u r) 39)).alloc (.cells stZero 34)) v s u r :=
  ⟨below_alloc3 _ _ _ _, alloc3_fst _ _ _ _, alloc3_snd _ _ _ _, alloc3_thd _ _ _ _, by simp⟩
/-- a block of three later on -/
theorem Front.at_ {w w3 wk : World} {v : SV} {s : StateP} {u : PV} {r : RecP} (h : Front w w3 v s u r) (hb : Below w3.heap.size w3 wk) :
    wk.heap[w.heap.size]? = some (.cells (stCells v s) 34 (0, 0)) ∧ wk.heap[w.heap.size + 1]? = some (.cells (recCells u r) 39 (0, 0)) ∧ wk.heap[w.heap.size + 2]? = some (.cells stZero 34 (0, 0)) := by
  have := h.size
  exact ⟨(hb.block _ (by omega)).trans h.st, (hb.block _ (by omega)).trans h.rc, (hb.block _ (by omega)).trans h.rs⟩

set_option maxHeartbeats 4000000 in
theorem take_form (v : SV) (s : StateP) (u : PV) (r : RecP) (w : World) (h : RdSt w v s) (hl : LensS s) (hr : RdPlan w u r.plan) (hlr : Lens r.plan) (hT : Tab w) (hf : formedB r = false) :
    Calls Tryd.prog 7 #[stV v s, recV u r] w (TkP w (takeP s r)) := by
  obtain ⟨w3, hw3⟩ : ∃ w3, w3 = ((w.alloc (.cells (stCells v s) 34)).alloc (.cells (recCells u r) 39)).alloc (.cells stZero 34) := ⟨_, rfl⟩
  have hfr := front_of w v s u r
  rw [← hw3] at hfr
  have hx := hfr.st
  have hy := hfr.rc
  have hz := hfr.rs
  have c0 : w3.cell? ⟨w.heap.size, 0, none⟩ = some (.int .i64 s.num) := by rw [cell_at hx]; rfl
  have c1 : w3.cell? ⟨w.heap.size, 1, none⟩ = some (.int .i64 s.ph) := by rw [cell_at hx]; rfl
  have c2 : w3.cell? ⟨w.heap.size, 2, none⟩ = some (v.p.f.v s.plan.fr.length) := by rw [cell_at hx]; rfl
  have c3 : w3.cell? ⟨w.heap.size, 3, none⟩ = some (v.p.t.v s.plan.tt.length) := by rw [cell_at hx]; rfl
  have c4 : w3.cell? ⟨w.heap.size, 4, none⟩ = some (v.p.s.v s.plan.steps.length) := by rw [cell_at hx]; rfl
  have c5 : w3.cell? ⟨w.heap.size, 5, none⟩ = some (v.p.b.v s.plan.before.length) := by rw [cell_at hx]; rfl
  have c6 : w3.cell? ⟨w.heap.size, 6, none⟩ = some (v.o.v s.op.length) := by rw [cell_at hx]; rfl
  have c7 : w3.cell? ⟨w.heap.size, 7, none⟩ = some (v.d.v s.dn.length) := by rw [cell_at hx]; rfl
  have d0 : w3.cell? ⟨w.heap.size + 1, 0, none⟩ = some (.int .i64 r.kind) := by rw [cell_at hy]; rfl
  have d1 : w3.cell? ⟨w.heap.size + 1, 1, none⟩ = some (.int .i64 r.step) := by rw [cell_at hy]; rfl
  have d2 : w3.cell? ⟨w.heap.size + 1, 2, none⟩ = some (u.f.v r.plan.fr.length) := by rw [cell_at hy]; rfl
  have d3 : w3.cell? ⟨w.heap.size + 1, 3, none⟩ = some (u.t.v r.plan.tt.length) := by rw [cell_at hy]; rfl
  have d4 : w3.cell? ⟨w.heap.size + 1, 4, none⟩ = some (u.s.v r.plan.steps.length) := by rw [cell_at hy]; rfl
  have d5 : w3.cell? ⟨w.heap.size + 1, 5, none⟩ = some (u.b.v r.plan.before.length) := by rw [cell_at hy]; rfl
  have H := Lib.hid (h.below hfr.below)
  have HR := Lib.hid (hr.below hfr.below)
  have HT := Lib.hid (hT.below hfr.below)
  have HF := Lib.hid hfr
  have HL := Lib.hid (And.intro hl hlr)
  have HV := Lib.hid hf
  have HX : Hid (takeP s r = (noState, 12)) := Lib.hid (by unfold takeP; rw [if_pos hf])
  clear hf
  clear h hr hT hfr hx hy hz hl hlr
  unfold stV recV stCells recCells stZero SL.v at *
  go_enter Tryd.func7, Tryd.ntmps7
  go_upto_region 2 with (go_at_call 17; rw [← hw3]; clear hw3; refine (formed_any u r _ HL.out.2).mono ?_; rw [HV.out]; rintro e w4 ⟨rfl, hb⟩; have HB4 := Lib.hid hb; clear hb)
  have hq := (HF.out.at_ HB4.out).2.2
  have r0 : w4.cell? ⟨w.heap.size + 2, 0, none⟩ = some (.int .i64 0) := by rw [cell_at hq]; rfl
  have r1 : w4.cell? ⟨w.heap.size + 2, 1, none⟩ = some (.int .i64 0) := by rw [cell_at hq]; rfl
  have r2 : w4.cell? ⟨w.heap.size + 2, 2, none⟩ = some (.slice none 0 0) := by rw [cell_at hq]; rfl
  have r3 : w4.cell? ⟨w.heap.size + 2, 3, none⟩ = some (.slice none 0 0) := by rw [cell_at hq]; rfl
  have r4 : w4.cell? ⟨w.heap.size + 2, 4, none⟩ = some (.slice none 0 0) := by rw [cell_at hq]; rfl
  have r5 : w4.cell? ⟨w.heap.size + 2, 5, none⟩ = some (.slice none 0 0) := by rw [cell_at hq]; rfl
  have r6 : w4.cell? ⟨w.heap.size + 2, 6, none⟩ = some (.slice none 0 0) := by rw [cell_at hq]; rfl
  have r7 : w4.cell? ⟨w.heap.size + 2, 7, none⟩ = some (.slice none 0 0) := by rw [cell_at hq]; rfl
  have q0 : w4.frozen? ⟨w.heap.size + 2, 0, none⟩ = false := frozen_at hq _
  have q1 : w4.frozen? ⟨w.heap.size + 2, 1, none⟩ = false := frozen_at hq _
  have q2 : w4.frozen? ⟨w.heap.size + 2, 2, none⟩ = false := frozen_at hq _
  have q3 : w4.frozen? ⟨w.heap.size + 2, 3, none⟩ = false := frozen_at hq _
  have q4 : w4.frozen? ⟨w.heap.size + 2, 4, none⟩ = false := frozen_at hq _
  have q5 : w4.frozen? ⟨w.heap.size + 2, 5, none⟩ = false := frozen_at hq _
  have q6 : w4.frozen? ⟨w.heap.size + 2, 6, none⟩ = false := frozen_at hq _
  have q7 : w4.frozen? ⟨w.heap.size + 2, 7, none⟩ = false := frozen_at hq _
  have hfin := (heap_set_same (heap_set_same (heap_set_same (heap_set_same (heap_set_same (heap_set_same (heap_set_same (heap_set_same hq 0 (.int .i64 0)) 1 (.int .i64 0)) 2 (.slice none 0 0)) 3 (.slice none 0 0)) 4 (.slice none 0 0)) 5 (.slice none 0 0)) 6 (.slice none 0 0)) 7 (.slice none 0 0))
  simp only [List.setIfInBounds_toArray, List.set_cons_zero, List.set_cons_succ] at hfin
  have hb8 : Hid (Below w.heap.size w ((((((((w4.setCell ⟨w.heap.size + 2, 0, none⟩ (.int .i64 0)).setCell ⟨w.heap.size + 2, 1, none⟩ (.int .i64 0)).setCell ⟨w.heap.size + 2, 2, none⟩ (.slice none 0 0)).setCell ⟨w.heap.size + 2, 3, none⟩ (.slice none 0 0)).setCell ⟨w.heap.size + 2, 4, none⟩ (.slice none 0 0)).setCell ⟨w.heap.size + 2, 5, none⟩ (.slice none 0 0)).setCell ⟨w.heap.size + 2, 6, none⟩ (.slice none 0 0)).setCell ⟨w.heap.size + 2, 7, none⟩ (.slice none 0 0))) := st_below (st_below (st_below (st_below (st_below (st_below (st_below (st_below ((Lib.hid (HF.out.below.trans (HB4.out.mono HF.out.below.size)))) (Nat.le_add_right _ _)) (Nat.le_add_right _ _)) (Nat.le_add_right _ _)) (Nat.le_add_right _ _)) (Nat.le_add_right _ _)) (Nat.le_add_right _ _)) (Nat.le_add_right _ _)) (Nat.le_add_right _ _)
  have HE := Lib.hid (And.intro hfin hb8.out)
  clear hfin hb8 hq
  go_wp2
  refine bodyPost_ret (v := .tuple #[stV nilV noState, .int .i64 12]) (YtedalanhjhiehaaDoorW.PrintWords.results_list (rs := [.cell 4 34, .tmp 5]) rfl (by simp) (.cell (w.heap.size + 2) 34 _ _ _ rfl HE.out.1 Tryd.underlying34 rfl (by kernel_rfl) (.tmp .nil))) rfl ?_
  rw [HX.out]
  exact ⟨nilV, rfl, owSt_nil _ _, HE.out.2⟩

set_option maxHeartbeats 4000000 in
theorem take_state (v : SV) (s : StateP) (u : PV) (r : RecP) (w : World) (h : RdSt w v s) (hl : LensS s) (hr : RdPlan w u r.plan) (hlr : Lens r.plan) (hT : Tab w) (hf : formedB r = true) (hw : whenB r.kind s.ph = false) :
    Calls Tryd.prog 7 #[stV v s, recV u r] w (TkP w (takeP s r)) := by
  obtain ⟨w3, hw3⟩ : ∃ w3, w3 = ((w.alloc (.cells (stCells v s) 34)).alloc (.cells (recCells u r) 39)).alloc (.cells stZero 34) := ⟨_, rfl⟩
  have hfr := front_of w v s u r
  rw [← hw3] at hfr
  have hx := hfr.st
  have hy := hfr.rc
  have hz := hfr.rs
  have c0 : w3.cell? ⟨w.heap.size, 0, none⟩ = some (.int .i64 s.num) := by rw [cell_at hx]; rfl
  have c1 : w3.cell? ⟨w.heap.size, 1, none⟩ = some (.int .i64 s.ph) := by rw [cell_at hx]; rfl
  have c2 : w3.cell? ⟨w.heap.size, 2, none⟩ = some (v.p.f.v s.plan.fr.length) := by rw [cell_at hx]; rfl
  have c3 : w3.cell? ⟨w.heap.size, 3, none⟩ = some (v.p.t.v s.plan.tt.length) := by rw [cell_at hx]; rfl
  have c4 : w3.cell? ⟨w.heap.size, 4, none⟩ = some (v.p.s.v s.plan.steps.length) := by rw [cell_at hx]; rfl
  have c5 : w3.cell? ⟨w.heap.size, 5, none⟩ = some (v.p.b.v s.plan.before.length) := by rw [cell_at hx]; rfl
  have c6 : w3.cell? ⟨w.heap.size, 6, none⟩ = some (v.o.v s.op.length) := by rw [cell_at hx]; rfl
  have c7 : w3.cell? ⟨w.heap.size, 7, none⟩ = some (v.d.v s.dn.length) := by rw [cell_at hx]; rfl
  have d0 : w3.cell? ⟨w.heap.size + 1, 0, none⟩ = some (.int .i64 r.kind) := by rw [cell_at hy]; rfl
  have d1 : w3.cell? ⟨w.heap.size + 1, 1, none⟩ = some (.int .i64 r.step) := by rw [cell_at hy]; rfl
  have d2 : w3.cell? ⟨w.heap.size + 1, 2, none⟩ = some (u.f.v r.plan.fr.length) := by rw [cell_at hy]; rfl
  have d3 : w3.cell? ⟨w.heap.size + 1, 3, none⟩ = some (u.t.v r.plan.tt.length) := by rw [cell_at hy]; rfl
  have d4 : w3.cell? ⟨w.heap.size + 1, 4, none⟩ = some (u.s.v r.plan.steps.length) := by rw [cell_at hy]; rfl
  have d5 : w3.cell? ⟨w.heap.size + 1, 5, none⟩ = some (u.b.v r.plan.before.length) := by rw [cell_at hy]; rfl
  have H := Lib.hid (h.below hfr.below)
  have HR := Lib.hid (hr.below hfr.below)
  have HT := Lib.hid (hT.below hfr.below)
  have HF := Lib.hid hfr
  have HL := Lib.hid (And.intro hl hlr)
  have HV := Lib.hid hf
  have HW := Lib.hid hw
  have HX : Hid (takeP s r = (noState, 70)) := Lib.hid (by unfold takeP; rw [if_neg (by simp [hf]), if_pos hw])
  clear hf hw
  clear h hr hT hfr hx hy hz hl hlr
  unfold stV recV stCells recCells stZero SL.v at *
  go_enter Tryd.func7, Tryd.ntmps7
  go_upto_region 4 with (first | (go_at_call 17; rw [← hw3]; clear hw3; refine (formed_any u r _ HL.out.2).mono ?_; rw [HV.out]; rintro e w4 ⟨rfl, hb⟩; have HB4 := Lib.hid hb; clear hb; have kc0 := keep_cell HB4.out c0; have kc1 := keep_cell HB4.out c1; have kc2 := keep_cell HB4.out c2; have kc3 := keep_cell HB4.out c3; have kc4 := keep_cell HB4.out c4; have kc5 := keep_cell HB4.out c5; have kc6 := keep_cell HB4.out c6; have kc7 := keep_cell HB4.out c7; have kd0 := keep_cell HB4.out d0; have kd1 := keep_cell HB4.out d1; have kd2 := keep_cell HB4.out d2; have kd3 := keep_cell HB4.out d3; have kd4 := keep_cell HB4.out d4; have kd5 := keep_cell HB4.out d5; clear c0 c1 c2 c3 c4 c5 c6 c7 d0 d1 d2 d3 d4 d5) | (go_at_call 18; refine (when_any _ _ _).mono ?_; rw [HW.out]; rintro e w' ⟨rfl, rfl⟩))
  have hq := (HF.out.at_ HB4.out).2.2
  have r0 : w4.cell? ⟨w.heap.size + 2, 0, none⟩ = some (.int .i64 0) := by rw [cell_at hq]; rfl
  have r1 : w4.cell? ⟨w.heap.size + 2, 1, none⟩ = some (.int .i64 0) := by rw [cell_at hq]; rfl
  have r2 : w4.cell? ⟨w.heap.size + 2, 2, none⟩ = some (.slice none 0 0) := by rw [cell_at hq]; rfl
  have r3 : w4.cell? ⟨w.heap.size + 2, 3, none⟩ = some (.slice none 0 0) := by rw [cell_at hq]; rfl
  have r4 : w4.cell? ⟨w.heap.size + 2, 4, none⟩ = some (.slice none 0 0) := by rw [cell_at hq]; rfl
  have r5 : w4.cell? ⟨w.heap.size + 2, 5, none⟩ = some (.slice none 0 0) := by rw [cell_at hq]; rfl
  have r6 : w4.cell? ⟨w.heap.size + 2, 6, none⟩ = some (.slice none 0 0) := by rw [cell_at hq]; rfl
  have r7 : w4.cell? ⟨w.heap.size + 2, 7, none⟩ = some (.slice none 0 0) := by rw [cell_at hq]; rfl
  have q0 : w4.frozen? ⟨w.heap.size + 2, 0, none⟩ = false := frozen_at hq _
  have q1 : w4.frozen? ⟨w.heap.size + 2, 1, none⟩ = false := frozen_at hq _
  have q2 : w4.frozen? ⟨w.heap.size + 2, 2, none⟩ = false := frozen_at hq _
  have q3 : w4.frozen? ⟨w.heap.size + 2, 3, none⟩ = false := frozen_at hq _
  have q4 : w4.frozen? ⟨w.heap.size + 2, 4, none⟩ = false := frozen_at hq _
  have q5 : w4.frozen? ⟨w.heap.size + 2, 5, none⟩ = false := frozen_at hq _
  have q6 : w4.frozen? ⟨w.heap.size + 2, 6, none⟩ = false := frozen_at hq _
  have q7 : w4.frozen? ⟨w.heap.size + 2, 7, none⟩ = false := frozen_at hq _
  have hfin := (heap_set_same (heap_set_same (heap_set_same (heap_set_same (heap_set_same (heap_set_same (heap_set_same (heap_set_same hq 0 (.int .i64 0)) 1 (.int .i64 0)) 2 (.slice none 0 0)) 3 (.slice none 0 0)) 4 (.slice none 0 0)) 5 (.slice none 0 0)) 6 (.slice none 0 0)) 7 (.slice none 0 0))
  simp only [List.setIfInBounds_toArray, List.set_cons_zero, List.set_cons_succ] at hfin
  have hb8 : Hid (Below w.heap.size w ((((((((w4.setCell ⟨w.heap.size + 2, 0, none⟩ (.int .i64 0)).setCell ⟨w.heap.size + 2, 1, none⟩ (.int .i64 0)).setCell ⟨w.heap.size + 2, 2, none⟩ (.slice none 0 0)).setCell ⟨w.heap.size + 2, 3, none⟩ (.slice none 0 0)).setCell ⟨w.heap.size + 2, 4, none⟩ (.slice none 0 0)).setCell ⟨w.heap.size + 2, 5, none⟩ (.slice none 0 0)).setCell ⟨w.heap.size + 2, 6, none⟩ (.slice none 0 0)).setCell ⟨w.heap.size + 2, 7, none⟩ (.slice none 0 0))) := st_below (st_below (st_below (st_below (st_below (st_below (st_below (st_below ((Lib.hid (HF.out.below.trans (HB4.out.mono HF.out.below.size)))) (Nat.le_add_right _ _)) (Nat.le_add_right _ _)) (Nat.le_add_right _ _)) (Nat.le_add_right _ _)) (Nat.le_add_right _ _)) (Nat.le_add_right _ _)) (Nat.le_add_right _ _)) (Nat.le_add_right _ _)
  have HE := Lib.hid (And.intro hfin hb8.out)
  clear hfin hb8 hq
  go_wp2
  refine bodyPost_ret (v := .tuple #[stV nilV noState, .int .i64 70]) (YtedalanhjhiehaaDoorW.PrintWords.results_list (rs := [.cell 4 34, .tmp 5]) rfl (by simp) (.cell (w.heap.size + 2) 34 _ _ _ rfl HE.out.1 Tryd.underlying34 rfl (by kernel_rfl) (.tmp .nil))) rfl ?_
  rw [HX.out]
  exact ⟨nilV, rfl, owSt_nil _ _, HE.out.2⟩

set_option maxHeartbeats 4000000 in
theorem take_ask (v : SV) (s : StateP) (u : PV) (r : RecP) (w : World) (h : RdSt w v s) (hl : LensS s) (hr : RdPlan w u r.plan) (hlr : Lens r.plan) (hT : Tab w) (hf : formedB r = true) (hw : whenB r.kind s.ph = true) (ha : askE s r ≠ 0) :
    Calls Tryd.prog 7 #[stV v s, recV u r] w (TkP w (takeP s r)) := by
  obtain ⟨w3, hw3⟩ : ∃ w3, w3 = ((w.alloc (.cells (stCells v s) 34)).alloc (.cells (recCells u r) 39)).alloc (.cells stZero 34) := ⟨_, rfl⟩
  have hfr := front_of w v s u r
  rw [← hw3] at hfr
  have hx := hfr.st
  have hy := hfr.rc
  have hz := hfr.rs
  have c0 : w3.cell? ⟨w.heap.size, 0, none⟩ = some (.int .i64 s.num) := by rw [cell_at hx]; rfl
  have c1 : w3.cell? ⟨w.heap.size, 1, none⟩ = some (.int .i64 s.ph) := by rw [cell_at hx]; rfl
  have c2 : w3.cell? ⟨w.heap.size, 2, none⟩ = some (v.p.f.v s.plan.fr.length) := by rw [cell_at hx]; rfl
  have c3 : w3.cell? ⟨w.heap.size, 3, none⟩ = some (v.p.t.v s.plan.tt.length) := by rw [cell_at hx]; rfl
  have c4 : w3.cell? ⟨w.heap.size, 4, none⟩ = some (v.p.s.v s.plan.steps.length) := by rw [cell_at hx]; rfl
  have c5 : w3.cell? ⟨w.heap.size, 5, none⟩ = some (v.p.b.v s.plan.before.length) := by rw [cell_at hx]; rfl
  have c6 : w3.cell? ⟨w.heap.size, 6, none⟩ = some (v.o.v s.op.length) := by rw [cell_at hx]; rfl
  have c7 : w3.cell? ⟨w.heap.size, 7, none⟩ = some (v.d.v s.dn.length) := by rw [cell_at hx]; rfl
  have d0 : w3.cell? ⟨w.heap.size + 1, 0, none⟩ = some (.int .i64 r.kind) := by rw [cell_at hy]; rfl
  have d1 : w3.cell? ⟨w.heap.size + 1, 1, none⟩ = some (.int .i64 r.step) := by rw [cell_at hy]; rfl
  have d2 : w3.cell? ⟨w.heap.size + 1, 2, none⟩ = some (u.f.v r.plan.fr.length) := by rw [cell_at hy]; rfl
  have d3 : w3.cell? ⟨w.heap.size + 1, 3, none⟩ = some (u.t.v r.plan.tt.length) := by rw [cell_at hy]; rfl
  have d4 : w3.cell? ⟨w.heap.size + 1, 4, none⟩ = some (u.s.v r.plan.steps.length) := by rw [cell_at hy]; rfl
  have d5 : w3.cell? ⟨w.heap.size + 1, 5, none⟩ = some (u.b.v r.plan.before.length) := by rw [cell_at hy]; rfl
  have H := Lib.hid (h.below hfr.below)
  have HR := Lib.hid (hr.below hfr.below)
  have HT := Lib.hid (hT.below hfr.below)
  have HF := Lib.hid hfr
  have HL := Lib.hid (And.intro hl hlr)
  have HV := Lib.hid hf
  have HW := Lib.hid hw
  have HK := Lib.hid (formed_kind hf)
  obtain ⟨ae, hae⟩ : ∃ ae, ae = askE s r := ⟨_, rfl⟩
  have HA := Lib.hid hae
  have HX : Hid (takeP s r = (noState, ae)) := Lib.hid (by unfold takeP; rw [if_neg (by simp [hf]), if_neg (by simp [hw]), if_pos ha, hae])
  have hne : (ae == 0) = false := by rw [hae]; exact beq_eq_false_iff_ne.2 ha
  clear hf hw ha hae
  clear h hr hT hfr hx hy hz hl hlr
  unfold stV recV stCells recCells stZero SL.v at *
  go_enter Tryd.func7, Tryd.ntmps7
  go_upto_region 7 with (first | (go_at_call 17; rw [← hw3]; clear hw3; refine (formed_any u r _ HL.out.2).mono ?_; rw [HV.out]; rintro e w4 ⟨rfl, hb⟩; have HB4 := Lib.hid hb; clear hb; have kc0 := keep_cell HB4.out c0; have kc1 := keep_cell HB4.out c1; have kc2 := keep_cell HB4.out c2; have kc3 := keep_cell HB4.out c3; have kc4 := keep_cell HB4.out c4; have kc5 := keep_cell HB4.out c5; have kc6 := keep_cell HB4.out c6; have kc7 := keep_cell HB4.out c7; have kd0 := keep_cell HB4.out d0; have kd1 := keep_cell HB4.out d1; have kd2 := keep_cell HB4.out d2; have kd3 := keep_cell HB4.out d3; have kd4 := keep_cell HB4.out d4; have kd5 := keep_cell HB4.out d5; clear c0 c1 c2 c3 c4 c5 c6 c7 d0 d1 d2 d3 d4 d5) | (go_at_call 18; refine (when_any _ _ _).mono ?_; rw [HW.out]; rintro e w' ⟨rfl, rfl⟩) | (go_at_call 19; refine (ask_any v s u r _ (H.out.below HB4.out) HL.out.1 (HR.out.below HB4.out) HL.out.2 (HT.out.below HB4.out) HK.out.1 HK.out.2).mono ?_; rw [← HA.out]; rintro e w5 ⟨rfl, hb⟩; have HB5 := Lib.hid (HB4.out.trans (hb.mono HB4.out.size)); clear hb))
  have hq := (HF.out.at_ HB5.out).2.2
  have r0 : w5.cell? ⟨w.heap.size + 2, 0, none⟩ = some (.int .i64 0) := by rw [cell_at hq]; rfl
  have r1 : w5.cell? ⟨w.heap.size + 2, 1, none⟩ = some (.int .i64 0) := by rw [cell_at hq]; rfl
  have r2 : w5.cell? ⟨w.heap.size + 2, 2, none⟩ = some (.slice none 0 0) := by rw [cell_at hq]; rfl
  have r3 : w5.cell? ⟨w.heap.size + 2, 3, none⟩ = some (.slice none 0 0) := by rw [cell_at hq]; rfl
  have r4 : w5.cell? ⟨w.heap.size + 2, 4, none⟩ = some (.slice none 0 0) := by rw [cell_at hq]; rfl
  have r5 : w5.cell? ⟨w.heap.size + 2, 5, none⟩ = some (.slice none 0 0) := by rw [cell_at hq]; rfl
  have r6 : w5.cell? ⟨w.heap.size + 2, 6, none⟩ = some (.slice none 0 0) := by rw [cell_at hq]; rfl
  have r7 : w5.cell? ⟨w.heap.size + 2, 7, none⟩ = some (.slice none 0 0) := by rw [cell_at hq]; rfl
  have q0 : w5.frozen? ⟨w.heap.size + 2, 0, none⟩ = false := frozen_at hq _
  have q1 : w5.frozen? ⟨w.heap.size + 2, 1, none⟩ = false := frozen_at hq _
  have q2 : w5.frozen? ⟨w.heap.size + 2, 2, none⟩ = false := frozen_at hq _
  have q3 : w5.frozen? ⟨w.heap.size + 2, 3, none⟩ = false := frozen_at hq _
  have q4 : w5.frozen? ⟨w.heap.size + 2, 4, none⟩ = false := frozen_at hq _
  have q5 : w5.frozen? ⟨w.heap.size + 2, 5, none⟩ = false := frozen_at hq _
  have q6 : w5.frozen? ⟨w.heap.size + 2, 6, none⟩ = false := frozen_at hq _
  have q7 : w5.frozen? ⟨w.heap.size + 2, 7, none⟩ = false := frozen_at hq _
  have hfin := (heap_set_same (heap_set_same (heap_set_same (heap_set_same (heap_set_same (heap_set_same (heap_set_same (heap_set_same hq 0 (.int .i64 0)) 1 (.int .i64 0)) 2 (.slice none 0 0)) 3 (.slice none 0 0)) 4 (.slice none 0 0)) 5 (.slice none 0 0)) 6 (.slice none 0 0)) 7 (.slice none 0 0))
  simp only [List.setIfInBounds_toArray, List.set_cons_zero, List.set_cons_succ] at hfin
  have hb8 : Hid (Below w.heap.size w ((((((((w5.setCell ⟨w.heap.size + 2, 0, none⟩ (.int .i64 0)).setCell ⟨w.heap.size + 2, 1, none⟩ (.int .i64 0)).setCell ⟨w.heap.size + 2, 2, none⟩ (.slice none 0 0)).setCell ⟨w.heap.size + 2, 3, none⟩ (.slice none 0 0)).setCell ⟨w.heap.size + 2, 4, none⟩ (.slice none 0 0)).setCell ⟨w.heap.size + 2, 5, none⟩ (.slice none 0 0)).setCell ⟨w.heap.size + 2, 6, none⟩ (.slice none 0 0)).setCell ⟨w.heap.size + 2, 7, none⟩ (.slice none 0 0))) := st_below (st_below (st_below (st_below (st_below (st_below (st_below (st_below ((Lib.hid (HF.out.below.trans (HB5.out.mono HF.out.below.size)))) (Nat.le_add_right _ _)) (Nat.le_add_right _ _)) (Nat.le_add_right _ _)) (Nat.le_add_right _ _)) (Nat.le_add_right _ _)) (Nat.le_add_right _ _)) (Nat.le_add_right _ _)) (Nat.le_add_right _ _)
  have HE := Lib.hid (And.intro hfin hb8.out)
  clear hfin hb8 hq
  go_wp2
  refine bodyPost_ret (v := .tuple #[stV nilV noState, .int .i64 ae]) (YtedalanhjhiehaaDoorW.PrintWords.results_list (rs := [.cell 4 34, .tmp 5]) rfl (by simp) (.cell (w.heap.size + 2) 34 _ _ _ rfl HE.out.1 Tryd.underlying34 rfl (by kernel_rfl) (.tmp .nil))) rfl ?_
  rw [HX.out]
  exact ⟨nilV, rfl, owSt_nil _ _, HE.out.2⟩
end Go.Proofs.YtedalanhjhiehaaDoor
