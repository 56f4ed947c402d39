import Derived.Test.YtedalanhjhiehaaDoorRd
set_option linter.unusedSimpArgs false
set_option linter.unusedVariables false
namespace Go.Proofs.YtedalanhjhiehaaDoor
open Go.RowKit
open YtedalanhjhiehaaDoorW.PrintWords (nums ReadsInt rd own_slice own_typed Kd)

set_option maxHeartbeats 8000000 in
set_option maxRecDepth 100000 in
theorem take_6 (v : SV) (s : StateP) (u : PV) (r : RecP) (w : World) (h : RdSt w v s) (hl : LensS s) (hr : RdPlan w u r.plan) (hlr : Lens r.plan) (hT : Tab w) (hf : formedB r = true) (hw : whenB r.kind s.ph = true) (ha : askE s r = 0) (hk : r.kind = 6) :
    Calls Tryd.prog 7 #[stV v s, recV u r] w (TkP w (takeP s r)) := by
  have e1 : (r.kind == 1) = false := by rw [hk]; rfl
  have e2 : (r.kind == 2) = false := by rw [hk]; rfl
  have e3 : (r.kind == 3) = false := by rw [hk]; rfl
  have e4 : (r.kind == 4) = false := by rw [hk]; rfl
  have e5 : (r.kind == 5) = false := by rw [hk]; rfl
  have e6 : (r.kind == 6) = true := by rw [hk]; rfl
  have HN : Hid (nextS s r = { s with op := dropL s.op r.step, dn := dropL s.dn r.step }) := Lib.hid (by unfold nextS; simp [hk])
  clear hk
  obtain ⟨w3, hw3⟩ : ∃ w3, w3 = ((w.alloc (.cells (stCells v s) 34)).alloc (.cells (recCells u r) 39)).alloc (.cells stZero 34) := ⟨_, rfl⟩
  have hfr := front_of w v s u r
  rw [← hw3] at hfr
  have hx := hfr.st
  have hy := hfr.rc
  have hz := hfr.rs
  have c0 : w3.cell? ⟨w.heap.size, 0, none⟩ = some (.int .i64 s.num) := by rw [cell_at hx]; rfl
  have c1 : w3.cell? ⟨w.heap.size, 1, none⟩ = some (.int .i64 s.ph) := by rw [cell_at hx]; rfl
  have c2 : w3.cell? ⟨w.heap.size, 2, none⟩ = some (v.p.f.v s.plan.fr.length) := by rw [cell_at hx]; rfl
  have c3 : w3.cell? ⟨w.heap.size, 3, none⟩ = some (v.p.t.v s.plan.tt.length) := by rw [cell_at hx]; rfl
  have c4 : w3.cell? ⟨w.heap.size, 4, none⟩ = some (v.p.s.v s.plan.steps.length) := by rw [cell_at hx]; rfl
  have c5 : w3.cell? ⟨w.heap.size, 5, none⟩ = some (v.p.b.v s.plan.before.length) := by rw [cell_at hx]; rfl
  have c6 : w3.cell? ⟨w.heap.size, 6, none⟩ = some (v.o.v s.op.length) := by rw [cell_at hx]; rfl
  have c7 : w3.cell? ⟨w.heap.size, 7, none⟩ = some (v.d.v s.dn.length) := by rw [cell_at hx]; rfl
  have d0 : w3.cell? ⟨w.heap.size + 1, 0, none⟩ = some (.int .i64 r.kind) := by rw [cell_at hy]; rfl
  have d1 : w3.cell? ⟨w.heap.size + 1, 1, none⟩ = some (.int .i64 r.step) := by rw [cell_at hy]; rfl
  have d2 : w3.cell? ⟨w.heap.size + 1, 2, none⟩ = some (u.f.v r.plan.fr.length) := by rw [cell_at hy]; rfl
  have d3 : w3.cell? ⟨w.heap.size + 1, 3, none⟩ = some (u.t.v r.plan.tt.length) := by rw [cell_at hy]; rfl
  have d4 : w3.cell? ⟨w.heap.size + 1, 4, none⟩ = some (u.s.v r.plan.steps.length) := by rw [cell_at hy]; rfl
  have d5 : w3.cell? ⟨w.heap.size + 1, 5, none⟩ = some (u.b.v r.plan.before.length) := by rw [cell_at hy]; rfl
  have H := Lib.hid (h.below hfr.below)
  have HR := Lib.hid (hr.below hfr.below)
  have HT := Lib.hid (hT.below hfr.below)
  have HF := Lib.hid hfr
  have HL := Lib.hid (And.intro hl hlr)
  have HV := Lib.hid hf
  have HW := Lib.hid hw
  have HA := Lib.hid ha
  have HK := Lib.hid (formed_kind hf)
  have HX : Hid (takeP s r = (nextS s r, 0)) := Lib.hid (by unfold takeP; rw [if_neg (by simp [hf]), if_neg (by simp [hw]), if_neg (by simp [ha])])
  clear hf hw ha
  clear h hr hT hfr hx hy hz hl hlr
  unfold stV recV stCells recCells stZero SL.v at *
  go_enter Tryd.func7, Tryd.ntmps7
  go_upto_region 9 with (first | (go_at_call 17; rw [← hw3]; clear hw3; refine (formed_any u r _ HL.out.2).mono ?_; rw [HV.out]; rintro e w4 ⟨rfl, hb⟩; have HB4 := Lib.hid hb; clear hb; have kc0 := keep_cell HB4.out c0; have kc1 := keep_cell HB4.out c1; have kc2 := keep_cell HB4.out c2; have kc3 := keep_cell HB4.out c3; have kc4 := keep_cell HB4.out c4; have kc5 := keep_cell HB4.out c5; have kc6 := keep_cell HB4.out c6; have kc7 := keep_cell HB4.out c7; have kd0 := keep_cell HB4.out d0; have kd1 := keep_cell HB4.out d1; have kd2 := keep_cell HB4.out d2; have kd3 := keep_cell HB4.out d3; have kd4 := keep_cell HB4.out d4; have kd5 := keep_cell HB4.out d5; clear c0 c1 c2 c3 c4 c5 c6 c7 d0 d1 d2 d3 d4 d5) | (go_at_call 18; refine (when_any _ _ _).mono ?_; rw [HW.out]; rintro e w' ⟨rfl, rfl⟩) | (go_at_call 19; refine (ask_any v s u r _ (H.out.below HB4.out) HL.out.1 (HR.out.below HB4.out) HL.out.2 (HT.out.below HB4.out) HK.out.1 HK.out.2).mono ?_; rw [HA.out]; rintro e w5 ⟨rfl, hb⟩; have HB5 := Lib.hid (HB4.out.trans (hb.mono HB4.out.size)); have lc0 := keep_cell hb kc0; have lc1 := keep_cell hb kc1; have lc2 := keep_cell hb kc2; have lc3 := keep_cell hb kc3; have lc4 := keep_cell hb kc4; have lc5 := keep_cell hb kc5; have lc6 := keep_cell hb kc6; have lc7 := keep_cell hb kc7; have ld0 := keep_cell hb kd0; clear hb kc0 kc1 kc2 kc3 kc4 kc5 kc6 kc7 kd0 kd1 kd2 kd3 kd4 kd5) | (go_at_call 20; refine (own_any v s _ (H.out.below HB5.out) HL.out.1).mono ?_; rintro e w6 ⟨v1, rfl, ho, hb, hap⟩; have HO := Lib.hid ho; have HAp := Lib.hid hap; clear hap; have HB6 := Lib.hid (HB5.out.trans (hb.mono HB5.out.size)); have mc0 := keep_cell hb lc0; have mc1 := keep_cell hb lc1; have mc2 := keep_cell hb lc2; have mc3 := keep_cell hb lc3; have mc4 := keep_cell hb lc4; have mc5 := keep_cell hb lc5; have mc6 := keep_cell hb lc6; have mc7 := keep_cell hb lc7; have hx6 := (HF.out.at_ HB6.out).1; have f0 : w6.frozen? ⟨w.heap.size, 0, none⟩ = false := frozen_at hx6 _; have f1 : w6.frozen? ⟨w.heap.size, 1, none⟩ = false := frozen_at hx6 _; have f2 : w6.frozen? ⟨w.heap.size, 2, none⟩ = false := frozen_at hx6 _; have f3 : w6.frozen? ⟨w.heap.size, 3, none⟩ = false := frozen_at hx6 _; have f4 : w6.frozen? ⟨w.heap.size, 4, none⟩ = false := frozen_at hx6 _; have f5 : w6.frozen? ⟨w.heap.size, 5, none⟩ = false := frozen_at hx6 _; have f6 : w6.frozen? ⟨w.heap.size, 6, none⟩ = false := frozen_at hx6 _; have f7 : w6.frozen? ⟨w.heap.size, 7, none⟩ = false := frozen_at hx6 _; clear hb ho hx6 lc0 lc1 lc2 lc3 lc4 lc5 lc6 lc7 ld0))
  obtain ⟨hx6, hy6, hz6⟩ := HF.out.at_ HB6.out
  have hB5 : w.heap.size + 3 ≤ w5.heap.size := by have := HB5.out.size; have := HF.out.size; omega
  have hx7 := (heap_set_same (heap_set_same (heap_set_same (heap_set_same (heap_set_same (heap_set_same (heap_set_same (heap_set_same hx6 0 (.int .i64 s.num)) 1 (.int .i64 s.ph)) 2 (v1.p.f.v s.plan.fr.length)) 3 (v1.p.t.v s.plan.tt.length)) 4 (v1.p.s.v s.plan.steps.length)) 5 (v1.p.b.v s.plan.before.length)) 6 (v1.o.v s.op.length)) 7 (v1.d.v s.dn.length))
  simp only [List.setIfInBounds_toArray, List.set_cons_zero, List.set_cons_succ] at hx7
  obtain ⟨w7, hw7⟩ : ∃ w7, w7 = ((((((((w6.setCell ⟨w.heap.size, 0, none⟩ (.int .i64 s.num)).setCell ⟨w.heap.size, 1, none⟩ (.int .i64 s.ph)).setCell ⟨w.heap.size, 2, none⟩ (v1.p.f.v s.plan.fr.length)).setCell ⟨w.heap.size, 3, none⟩ (v1.p.t.v s.plan.tt.length)).setCell ⟨w.heap.size, 4, none⟩ (v1.p.s.v s.plan.steps.length)).setCell ⟨w.heap.size, 5, none⟩ (v1.p.b.v s.plan.before.length)).setCell ⟨w.heap.size, 6, none⟩ (v1.o.v s.op.length)).setCell ⟨w.heap.size, 7, none⟩ (v1.d.v s.dn.length)) := ⟨_, rfl⟩
  have k7 : Kp (w.heap.size + 1) w6 w7 := by
    rw [hw7]
    exact (((((((((Kp.refl (w.heap.size + 1) w6).set (p := ⟨_, 0, none⟩) (Nat.lt_succ_self _) _).set (p := ⟨_, 1, none⟩) (Nat.lt_succ_self _) _).set (p := ⟨_, 2, none⟩) (Nat.lt_succ_self _) _).set (p := ⟨_, 3, none⟩) (Nat.lt_succ_self _) _).set (p := ⟨_, 4, none⟩) (Nat.lt_succ_self _) _).set (p := ⟨_, 5, none⟩) (Nat.lt_succ_self _) _).set (p := ⟨_, 6, none⟩) (Nat.lt_succ_self _) _).set (p := ⟨_, 7, none⟩) (Nat.lt_succ_self _) _)
  have hb7 : Hid (Below w.heap.size w w7) := by
    rw [hw7]
    exact st_below (st_below (st_below (st_below (st_below (st_below (st_below (st_below ((Lib.hid (HF.out.below.trans (HB6.out.mono HF.out.below.size)))) (Nat.le_refl _)) (Nat.le_refl _)) (Nat.le_refl _)) (Nat.le_refl _)) (Nat.le_refl _)) (Nat.le_refl _)) (Nat.le_refl _)) (Nat.le_refl _)
  have hz7 := (k7 (w.heap.size + 2) (by omega)).trans hz6
  have hy7 := (k7 (w.heap.size + 1) (by omega)).trans hy6
  have hs7 : w.heap.size + 3 ≤ w7.heap.size := by rw [hw7]; simp [World.setCell]; have := HB6.out.size; have := HF.out.size; omega
  have OO : OwSt w7 (w.heap.size + 3) v1 s := (HO.out.step k7 (by omega)).lower hB5
  unfold SL.v at hw7
  rw [← hw7] at hx7 ⊢
  clear hw7 k7 mc0 mc1 mc2 mc3 mc4 mc5 mc6 mc7 f0 f1 f2 f3 f4 f5 f6 f7 hx6 hy6 hz6
  have g0 : w7.cell? ⟨w.heap.size, 0, none⟩ = some (.int .i64 s.num) := by rw [cell_at hx7]; rfl
  have g1 : w7.cell? ⟨w.heap.size, 1, none⟩ = some (.int .i64 s.ph) := by rw [cell_at hx7]; rfl
  have g2 : w7.cell? ⟨w.heap.size, 2, none⟩ = some (v1.p.f.v s.plan.fr.length) := by rw [cell_at hx7]; rfl
  have g3 : w7.cell? ⟨w.heap.size, 3, none⟩ = some (v1.p.t.v s.plan.tt.length) := by rw [cell_at hx7]; rfl
  have g4 : w7.cell? ⟨w.heap.size, 4, none⟩ = some (v1.p.s.v s.plan.steps.length) := by rw [cell_at hx7]; rfl
  have g5 : w7.cell? ⟨w.heap.size, 5, none⟩ = some (v1.p.b.v s.plan.before.length) := by rw [cell_at hx7]; rfl
  have g6 : w7.cell? ⟨w.heap.size, 6, none⟩ = some (v1.o.v s.op.length) := by rw [cell_at hx7]; rfl
  have g7 : w7.cell? ⟨w.heap.size, 7, none⟩ = some (v1.d.v s.dn.length) := by rw [cell_at hx7]; rfl
  have f0 : w7.frozen? ⟨w.heap.size, 0, none⟩ = false := frozen_at hx7 _
  have f1 : w7.frozen? ⟨w.heap.size, 1, none⟩ = false := frozen_at hx7 _
  have f2 : w7.frozen? ⟨w.heap.size, 2, none⟩ = false := frozen_at hx7 _
  have f3 : w7.frozen? ⟨w.heap.size, 3, none⟩ = false := frozen_at hx7 _
  have f4 : w7.frozen? ⟨w.heap.size, 4, none⟩ = false := frozen_at hx7 _
  have f5 : w7.frozen? ⟨w.heap.size, 5, none⟩ = false := frozen_at hx7 _
  have f6 : w7.frozen? ⟨w.heap.size, 6, none⟩ = false := frozen_at hx7 _
  have f7 : w7.frozen? ⟨w.heap.size, 7, none⟩ = false := frozen_at hx7 _
  have d0 : w7.cell? ⟨w.heap.size + 1, 0, none⟩ = some (.int .i64 r.kind) := by rw [cell_at hy7]; rfl
  have d1 : w7.cell? ⟨w.heap.size + 1, 1, none⟩ = some (.int .i64 r.step) := by rw [cell_at hy7]; rfl
  have d2 : w7.cell? ⟨w.heap.size + 1, 2, none⟩ = some (u.f.v r.plan.fr.length) := by rw [cell_at hy7]; rfl
  have d3 : w7.cell? ⟨w.heap.size + 1, 3, none⟩ = some (u.t.v r.plan.tt.length) := by rw [cell_at hy7]; rfl
  have d4 : w7.cell? ⟨w.heap.size + 1, 4, none⟩ = some (u.s.v r.plan.steps.length) := by rw [cell_at hy7]; rfl
  have d5 : w7.cell? ⟨w.heap.size + 1, 5, none⟩ = some (u.b.v r.plan.before.length) := by rw [cell_at hy7]; rfl
  have r0 : w7.cell? ⟨w.heap.size + 2, 0, none⟩ = some (.int .i64 0) := by rw [cell_at hz7]; rfl
  have r1 : w7.cell? ⟨w.heap.size + 2, 1, none⟩ = some (.int .i64 0) := by rw [cell_at hz7]; rfl
  have r2 : w7.cell? ⟨w.heap.size + 2, 2, none⟩ = some (.slice none 0 0) := by rw [cell_at hz7]; rfl
  have r3 : w7.cell? ⟨w.heap.size + 2, 3, none⟩ = some (.slice none 0 0) := by rw [cell_at hz7]; rfl
  have r4 : w7.cell? ⟨w.heap.size + 2, 4, none⟩ = some (.slice none 0 0) := by rw [cell_at hz7]; rfl
  have r5 : w7.cell? ⟨w.heap.size + 2, 5, none⟩ = some (.slice none 0 0) := by rw [cell_at hz7]; rfl
  have r6 : w7.cell? ⟨w.heap.size + 2, 6, none⟩ = some (.slice none 0 0) := by rw [cell_at hz7]; rfl
  have r7 : w7.cell? ⟨w.heap.size + 2, 7, none⟩ = some (.slice none 0 0) := by rw [cell_at hz7]; rfl
  have q0 : w7.frozen? ⟨w.heap.size + 2, 0, none⟩ = false := frozen_at hz7 _
  have q1 : w7.frozen? ⟨w.heap.size + 2, 1, none⟩ = false := frozen_at hz7 _
  have q2 : w7.frozen? ⟨w.heap.size + 2, 2, none⟩ = false := frozen_at hz7 _
  have q3 : w7.frozen? ⟨w.heap.size + 2, 3, none⟩ = false := frozen_at hz7 _
  have q4 : w7.frozen? ⟨w.heap.size + 2, 4, none⟩ = false := frozen_at hz7 _
  have q5 : w7.frozen? ⟨w.heap.size + 2, 5, none⟩ = false := frozen_at hz7 _
  have q6 : w7.frozen? ⟨w.heap.size + 2, 6, none⟩ = false := frozen_at hz7 _
  have q7 : w7.frozen? ⟨w.heap.size + 2, 7, none⟩ = false := frozen_at hz7 _
  unfold SL.v at g2 g3 g4 g5 g6 g7 d2 d3 d4 d5
  have HOO := Lib.hid (And.intro OO (And.intro hx7 (And.intro hy7 (And.intro hz7 (And.intro hb7.out hs7)))))
  clear OO hx7 hy7 hz7 hb7 hs7
  go_upto_region 20 with (fail)
  refine wp_region_K (N := 14) (fun w' => w'.cell? ⟨w.heap.size, 6, none⟩ = some (.slice v1.o.a s.op.length v1.o.c) ∧ w'.cell? ⟨w.heap.size, 7, none⟩ = some (.slice v1.d.a s.dn.length v1.d.c) ∧ w'.cell? ⟨w.heap.size + 1, 1, none⟩ = some (.int .i64 r.step)) 11 (by kernel_rfl) rfl ?_
  have HS := ((And.intro g6 (And.intro g7 d1)) : (fun w' => w'.cell? ⟨w.heap.size, 6, none⟩ = some (.slice v1.o.a s.op.length v1.o.c) ∧ w'.cell? ⟨w.heap.size, 7, none⟩ = some (.slice v1.d.a s.dn.length v1.d.c) ∧ w'.cell? ⟨w.heap.size + 1, 1, none⟩ = some (.int .i64 r.step)) w7.drew)
  refine wpAnyK_take (i := 0) (g := 14) (v := .pointer (some ⟨w.heap.size, 6, none⟩)) rfl (by kernel_rfl) (fun _ _ _ h => h) (Or.inl ⟨by rfl, fun w' hw' => ?_⟩) HS ?_
  · obtain ⟨k0, k1, k2⟩ := hw'
    go_simp
  try simp only [Act.put, List.setIfInBounds_toArray, List.set_cons_zero, List.set_cons_succ]
  refine wpAnyK_take (i := 1) (g := 14) (v := .slice v1.o.a s.op.length v1.o.c) rfl (by kernel_rfl) (fun _ _ _ h => h) (Or.inl ⟨by rfl, fun w' hw' => ?_⟩) HS ?_
  · obtain ⟨k0, k1, k2⟩ := hw'
    go_simp
  try simp only [Act.put, List.setIfInBounds_toArray, List.set_cons_zero, List.set_cons_succ]
  refine wpAnyK_take (i := 2) (g := 14) (v := .pointer (some ⟨w.heap.size + 1, 1, none⟩)) rfl (by kernel_rfl) (fun _ _ _ h => h) (Or.inl ⟨by rfl, fun w' hw' => ?_⟩) HS ?_
  · obtain ⟨k0, k1, k2⟩ := hw'
    go_simp
  try simp only [Act.put, List.setIfInBounds_toArray, List.set_cons_zero, List.set_cons_succ]
  refine wpAnyK_take (i := 3) (g := 14) (v := .int .i64 r.step) rfl (by kernel_rfl) (fun _ _ _ h => h) (Or.inl ⟨by rfl, fun w' hw' => ?_⟩) HS ?_
  · obtain ⟨k0, k1, k2⟩ := hw'
    go_simp
  try simp only [Act.put, List.setIfInBounds_toArray, List.set_cons_zero, List.set_cons_succ]
  refine wpAnyK_take (i := 5) (g := 14) (v := .pointer (some ⟨w.heap.size, 7, none⟩)) rfl (by kernel_rfl) (fun _ _ _ h => h) (Or.inl ⟨by rfl, fun w' hw' => ?_⟩) HS ?_
  · obtain ⟨k0, k1, k2⟩ := hw'
    go_simp
  try simp only [Act.put, List.setIfInBounds_toArray, List.set_cons_zero, List.set_cons_succ]
  refine wpAnyK_take (i := 6) (g := 14) (v := .slice v1.d.a s.dn.length v1.d.c) rfl (by kernel_rfl) (fun _ _ _ h => h) (Or.inl ⟨by rfl, fun w' hw' => ?_⟩) HS ?_
  · obtain ⟨k0, k1, k2⟩ := hw'
    go_simp
  try simp only [Act.put, List.setIfInBounds_toArray, List.set_cons_zero, List.set_cons_succ]
  refine wpAnyK_take (i := 7) (g := 14) (v := .pointer (some ⟨w.heap.size + 1, 1, none⟩)) rfl (by kernel_rfl) (fun _ _ _ h => h) (Or.inl ⟨by rfl, fun w' hw' => ?_⟩) HS ?_
  · obtain ⟨k0, k1, k2⟩ := hw'
    go_simp
  try simp only [Act.put, List.setIfInBounds_toArray, List.set_cons_zero, List.set_cons_succ]
  refine wpAnyK_take (i := 8) (g := 14) (v := .int .i64 r.step) rfl (by kernel_rfl) (fun _ _ _ h => h) (Or.inl ⟨by rfl, fun w' hw' => ?_⟩) HS ?_
  · obtain ⟨k0, k1, k2⟩ := hw'
    go_simp
  try simp only [Act.put, List.setIfInBounds_toArray, List.set_cons_zero, List.set_cons_succ]
  refine wpAnyK_one (i := 4) (by kernel_rfl) rfl rfl (fun K hK => ?_)
  go_simp
  refine (drop_any v1.o s.op r.step w7.drew (RdI.below (w := w7) (w' := w7.drew) HOO.out.1.o.rd ⟨rfl, rfl, rfl, Nat.le_refl _, fun _ _ => rfl⟩) HL.out.1.o).mono ?_
  rintro e w8 ⟨s8, rfl, ho8, hb8⟩
  have hb8' : Below w7.heap.size w7 w8 := ⟨hb8.os, hb8.tape, hb8.output, hb8.size, hb8.block⟩
  have HO8 := Lib.hid (And.intro ho8 hb8')
  have HS1 := (And.intro (keep_cell hb8 HS.1) (And.intro (keep_cell hb8 HS.2.1) (keep_cell hb8 HS.2.2)))
  have HSh1 := Lib.hid HS1
  clear ho8 HS HS1 hb8 hb8'
  go_wp2_with fail
  refine hK.out _ _ (fun _ => HSh1.out) ?_
  clear hK K
  try simp only [Act.put, List.setIfInBounds_toArray, List.set_cons_zero, List.set_cons_succ]
  refine wpAnyK_take (i := 10) (g := 14) (v := .pointer (some ⟨w.heap.size, 6, none⟩)) rfl (by kernel_rfl) (fun _ _ _ h => h) (Or.inl ⟨by rfl, fun w' hw' => ?_⟩) HSh1.out ?_
  · obtain ⟨k0, k1, k2⟩ := hw'
    go_simp
  try simp only [Act.put, List.setIfInBounds_toArray, List.set_cons_zero, List.set_cons_succ]
  refine wpAnyK_one (i := 9) (by kernel_rfl) rfl rfl (fun K hK => ?_)
  go_simp
  refine (drop_any v1.d s.dn r.step _ (HOO.out.1.d.rd.below HO8.out.2) HL.out.1.d).mono ?_
  rintro e w9 ⟨s9, rfl, ho9, hb9⟩
  have HO9 := Lib.hid (And.intro ho9 hb9)
  have HS1 := (And.intro (keep_cell hb9 HSh1.out.1) (And.intro (keep_cell hb9 HSh1.out.2.1) (keep_cell hb9 HSh1.out.2.2)))
  have HSh2 := Lib.hid HS1
  clear ho9 HS1
  have hbb := HO8.out.2.trans (hb9.mono HO8.out.2.size)
  have G0 := keep_cell hbb g0
  have F0 := keep_frz hbb g0 f0
  have G1 := keep_cell hbb g1
  have F1 := keep_frz hbb g1 f1
  have G2 := keep_cell hbb g2
  have F2 := keep_frz hbb g2 f2
  have G3 := keep_cell hbb g3
  have F3 := keep_frz hbb g3 f3
  have G4 := keep_cell hbb g4
  have F4 := keep_frz hbb g4 f4
  have G5 := keep_cell hbb g5
  have F5 := keep_frz hbb g5 f5
  have G6 := keep_cell hbb g6
  have F6 := keep_frz hbb g6 f6
  have G7 := keep_cell hbb g7
  have F7 := keep_frz hbb g7 f7
  have R0 := keep_cell hbb r0
  have Q0 := keep_frz hbb r0 q0
  have R1 := keep_cell hbb r1
  have Q1 := keep_frz hbb r1 q1
  have R2 := keep_cell hbb r2
  have Q2 := keep_frz hbb r2 q2
  have R3 := keep_cell hbb r3
  have Q3 := keep_frz hbb r3 q3
  have R4 := keep_cell hbb r4
  have Q4 := keep_frz hbb r4 q4
  have R5 := keep_cell hbb r5
  have Q5 := keep_frz hbb r5 q5
  have R6 := keep_cell hbb r6
  have Q6 := keep_frz hbb r6 q6
  have R7 := keep_cell hbb r7
  have Q7 := keep_frz hbb r7 q7
  clear hb9 hbb g0 g1 g2 g3 g4 g5 g6 g7 f0 f1 f2 f3 f4 f5 f6 f7 r0 r1 r2 r3 r4 r5 r6 r7 q0 q1 q2 q3 q4 q5 q6 q7
  go_wp2_with fail
  refine hK.out _ _ (fun _ => HSh2.out) ?_
  clear hK K
  try simp only [Act.put, List.setIfInBounds_toArray, List.set_cons_zero, List.set_cons_succ]
  refine wpAnyK_one (i := 11) (by kernel_rfl) rfl rfl (fun K hK => ?_)
  go_simp
  refine hK.out _ _ (fun h => nomatch (show true = false from h)) ?_
  clear hK K
  try simp only [Act.put, List.setIfInBounds_toArray, List.set_cons_zero, List.set_cons_succ]
  refine wpAnyK_one (i := 12) (by kernel_rfl) rfl rfl (fun K hK => ?_)
  go_simp
  refine hK.out _ _ (fun h => nomatch (show true = false from h)) ?_
  clear hK K
  try simp only [Act.put, List.setIfInBounds_toArray, List.set_cons_zero, List.set_cons_succ]
  refine wpAnyK_one (i := 13) (by kernel_rfl) rfl rfl (fun K hK => ?_)
  go_simp
  refine hK.out _ _ (fun h => nomatch (show true = false from h)) ?_
  clear hK K
  try simp only [Act.put, List.setIfInBounds_toArray, List.set_cons_zero, List.set_cons_succ]
  refine wpAnyK_done (by kernel_rfl) ?_
  have hbb := HO8.out.2.trans (HO9.out.2.mono HO8.out.2.size)
  have hs7 := HOO.out.2.2.2.2.2
  have hs8 := HO8.out.2.size
  have O9 : OwSt w9 (w.heap.size + 3) ⟨v1.p, s8, s9⟩ ({ s with op := dropL s.op r.step, dn := dropL s.dn r.step }) := ⟨HOO.out.1.p.below hbb, (HO8.out.1.below HO9.out.2).lower hs7, HO9.out.1.lower (by omega)⟩
  have hz9 := (hbb.block _ (by omega)).trans HOO.out.2.2.2.1
  have hx9 := (hbb.block _ (by omega)).trans HOO.out.2.1
  have k8 : Kp (w.heap.size + 1) w9 ((w9.setCell ⟨w.heap.size, 6, none⟩ (s8.v (dropL s.op r.step).length)).setCell ⟨w.heap.size, 7, none⟩ (s9.v (dropL s.dn r.step).length)) := ((Kp.refl _ _).set (p := ⟨_, 6, none⟩) (Nat.lt_succ_self _) _).set (p := ⟨_, 7, none⟩) (Nat.lt_succ_self _) _
  have hz10 := (k8 (w.heap.size + 2) (by omega)).trans hz9
  have hx10 := heap_set_same (heap_set_same hx9 6 (s8.v (dropL s.op r.step).length)) 7 (s9.v (dropL s.dn r.step).length)
  simp only [List.setIfInBounds_toArray, List.set_cons_zero, List.set_cons_succ] at hx10
  have hb10 := st_below (p := ⟨w.heap.size, 7, none⟩) (v := s9.v (dropL s.dn r.step).length) (st_below (p := ⟨w.heap.size, 6, none⟩) (v := s8.v (dropL s.op r.step).length) (Lib.hid (HOO.out.2.2.2.2.1.trans (hbb.mono HOO.out.2.2.2.2.1.size))) (Nat.le_refl _)) (Nat.le_refl _)
  have hfin := (heap_set_same (heap_set_same (heap_set_same (heap_set_same (heap_set_same (heap_set_same (heap_set_same (heap_set_same hz10 0 (.int .i64 s.num)) 1 (.int .i64 s.ph)) 2 (v1.p.f.v s.plan.fr.length)) 3 (v1.p.t.v s.plan.tt.length)) 4 (v1.p.s.v s.plan.steps.length)) 5 (v1.p.b.v s.plan.before.length)) 6 (s8.v (dropL s.op r.step).length)) 7 (s9.v (dropL s.dn r.step).length))
  simp only [List.setIfInBounds_toArray, List.set_cons_zero, List.set_cons_succ] at hfin
  have k9 : Kp (w.heap.size + 3) ((w9.setCell ⟨w.heap.size, 6, none⟩ (s8.v (dropL s.op r.step).length)).setCell ⟨w.heap.size, 7, none⟩ (s9.v (dropL s.dn r.step).length)) ((((((((((w9.setCell ⟨w.heap.size, 6, none⟩ (s8.v (dropL s.op r.step).length)).setCell ⟨w.heap.size, 7, none⟩ (s9.v (dropL s.dn r.step).length)).setCell ⟨w.heap.size + 2, 0, none⟩ (.int .i64 s.num)).setCell ⟨w.heap.size + 2, 1, none⟩ (.int .i64 s.ph)).setCell ⟨w.heap.size + 2, 2, none⟩ (v1.p.f.v s.plan.fr.length)).setCell ⟨w.heap.size + 2, 3, none⟩ (v1.p.t.v s.plan.tt.length)).setCell ⟨w.heap.size + 2, 4, none⟩ (v1.p.s.v s.plan.steps.length)).setCell ⟨w.heap.size + 2, 5, none⟩ (v1.p.b.v s.plan.before.length)).setCell ⟨w.heap.size + 2, 6, none⟩ (s8.v (dropL s.op r.step).length)).setCell ⟨w.heap.size + 2, 7, none⟩ (s9.v (dropL s.dn r.step).length)) := (((((((((Kp.refl (w.heap.size + 3) ((w9.setCell ⟨w.heap.size, 6, none⟩ (s8.v (dropL s.op r.step).length)).setCell ⟨w.heap.size, 7, none⟩ (s9.v (dropL s.dn r.step).length))).set (p := ⟨_, 0, none⟩) (Nat.lt_succ_self _) _).set (p := ⟨_, 1, none⟩) (Nat.lt_succ_self _) _).set (p := ⟨_, 2, none⟩) (Nat.lt_succ_self _) _).set (p := ⟨_, 3, none⟩) (Nat.lt_succ_self _) _).set (p := ⟨_, 4, none⟩) (Nat.lt_succ_self _) _).set (p := ⟨_, 5, none⟩) (Nat.lt_succ_self _) _).set (p := ⟨_, 6, none⟩) (Nat.lt_succ_self _) _).set (p := ⟨_, 7, none⟩) (Nat.lt_succ_self _) _)
  have hb9 : Hid (Below w.heap.size w ((((((((((w9.setCell ⟨w.heap.size, 6, none⟩ (s8.v (dropL s.op r.step).length)).setCell ⟨w.heap.size, 7, none⟩ (s9.v (dropL s.dn r.step).length)).setCell ⟨w.heap.size + 2, 0, none⟩ (.int .i64 s.num)).setCell ⟨w.heap.size + 2, 1, none⟩ (.int .i64 s.ph)).setCell ⟨w.heap.size + 2, 2, none⟩ (v1.p.f.v s.plan.fr.length)).setCell ⟨w.heap.size + 2, 3, none⟩ (v1.p.t.v s.plan.tt.length)).setCell ⟨w.heap.size + 2, 4, none⟩ (v1.p.s.v s.plan.steps.length)).setCell ⟨w.heap.size + 2, 5, none⟩ (v1.p.b.v s.plan.before.length)).setCell ⟨w.heap.size + 2, 6, none⟩ (s8.v (dropL s.op r.step).length)).setCell ⟨w.heap.size + 2, 7, none⟩ (s9.v (dropL s.dn r.step).length))) := st_below (st_below (st_below (st_below (st_below (st_below (st_below (st_below (hb10) (Nat.le_add_right _ _)) (Nat.le_add_right _ _)) (Nat.le_add_right _ _)) (Nat.le_add_right _ _)) (Nat.le_add_right _ _)) (Nat.le_add_right _ _)) (Nat.le_add_right _ _)) (Nat.le_add_right _ _)
  have HE := Lib.hid (And.intro hfin (And.intro (OwSt.lower (B' := w.heap.size) (OwSt.step (OwSt.step O9 k8 (by omega)) k9 (Nat.le_refl _)) (Nat.le_add_right _ _)) hb9.out))
  clear hfin k9 hb9
  obtain ⟨wt, hwt⟩ : ∃ wt, wt = ((w9.setCell ⟨w.heap.size, 6, none⟩ (s8.v (dropL s.op r.step).length)).setCell ⟨w.heap.size, 7, none⟩ (s9.v (dropL s.dn r.step).length)) := ⟨_, rfl⟩
  rw [← hwt] at hx10 hz10 HE
  have J0 : wt.cell? ⟨w.heap.size, 0, none⟩ = some (.int .i64 s.num) := by rw [cell_at hx10]; rfl
  have J1 : wt.cell? ⟨w.heap.size, 1, none⟩ = some (.int .i64 s.ph) := by rw [cell_at hx10]; rfl
  have J2 : wt.cell? ⟨w.heap.size, 2, none⟩ = some (v1.p.f.v s.plan.fr.length) := by rw [cell_at hx10]; rfl
  have J3 : wt.cell? ⟨w.heap.size, 3, none⟩ = some (v1.p.t.v s.plan.tt.length) := by rw [cell_at hx10]; rfl
  have J4 : wt.cell? ⟨w.heap.size, 4, none⟩ = some (v1.p.s.v s.plan.steps.length) := by rw [cell_at hx10]; rfl
  have J5 : wt.cell? ⟨w.heap.size, 5, none⟩ = some (v1.p.b.v s.plan.before.length) := by rw [cell_at hx10]; rfl
  have J6 : wt.cell? ⟨w.heap.size, 6, none⟩ = some (s8.v (dropL s.op r.step).length) := by rw [cell_at hx10]; rfl
  have J7 : wt.cell? ⟨w.heap.size, 7, none⟩ = some (s9.v (dropL s.dn r.step).length) := by rw [cell_at hx10]; rfl
  have R'0 : wt.cell? ⟨w.heap.size + 2, 0, none⟩ = some (.int .i64 0) := by rw [cell_at hz10]; rfl
  have Q'0 : wt.frozen? ⟨w.heap.size + 2, 0, none⟩ = false := frozen_at hz10 _
  have R'1 : wt.cell? ⟨w.heap.size + 2, 1, none⟩ = some (.int .i64 0) := by rw [cell_at hz10]; rfl
  have Q'1 : wt.frozen? ⟨w.heap.size + 2, 1, none⟩ = false := frozen_at hz10 _
  have R'2 : wt.cell? ⟨w.heap.size + 2, 2, none⟩ = some (.slice none 0 0) := by rw [cell_at hz10]; rfl
  have Q'2 : wt.frozen? ⟨w.heap.size + 2, 2, none⟩ = false := frozen_at hz10 _
  have R'3 : wt.cell? ⟨w.heap.size + 2, 3, none⟩ = some (.slice none 0 0) := by rw [cell_at hz10]; rfl
  have Q'3 : wt.frozen? ⟨w.heap.size + 2, 3, none⟩ = false := frozen_at hz10 _
  have R'4 : wt.cell? ⟨w.heap.size + 2, 4, none⟩ = some (.slice none 0 0) := by rw [cell_at hz10]; rfl
  have Q'4 : wt.frozen? ⟨w.heap.size + 2, 4, none⟩ = false := frozen_at hz10 _
  have R'5 : wt.cell? ⟨w.heap.size + 2, 5, none⟩ = some (.slice none 0 0) := by rw [cell_at hz10]; rfl
  have Q'5 : wt.frozen? ⟨w.heap.size + 2, 5, none⟩ = false := frozen_at hz10 _
  have R'6 : wt.cell? ⟨w.heap.size + 2, 6, none⟩ = some (.slice none 0 0) := by rw [cell_at hz10]; rfl
  have Q'6 : wt.frozen? ⟨w.heap.size + 2, 6, none⟩ = false := frozen_at hz10 _
  have R'7 : wt.cell? ⟨w.heap.size + 2, 7, none⟩ = some (.slice none 0 0) := by rw [cell_at hz10]; rfl
  have Q'7 : wt.frozen? ⟨w.heap.size + 2, 7, none⟩ = false := frozen_at hz10 _
  unfold SL.v at hwt
  first | rw [← hwt] | (simp only [SL.v] at hwt ⊢; rw [← hwt])
  clear hwt hx10 hz10 hb10 k8 hx9 hz9 O9 hbb hs7 hs8 G0 F0 R0 Q0 G1 F1 R1 Q1 G2 F2 R2 Q2 G3 F3 R3 Q3 G4 F4 R4 Q4 G5 F5 R5 Q5 G6 F6 R6 Q6 G7 F7 R7 Q7
  unfold SL.v at J2 J3 J4 J5 J6 J7
  go_wp2
  refine bodyPost_ret (v := .tuple #[stV ⟨v1.p, s8, s9⟩ ({ s with op := dropL s.op r.step, dn := dropL s.dn r.step }), .int .i64 0]) (YtedalanhjhiehaaDoorW.PrintWords.results_list (rs := [.cell 4 34, .tmp 5]) rfl (by simp) (.cell (w.heap.size + 2) 34 _ _ _ rfl HE.out.1 Tryd.underlying34 rfl (by kernel_rfl) (.tmp .nil))) rfl ?_
  rw [HX.out, HN.out]
  exact ⟨⟨v1.p, s8, s9⟩, rfl, HE.out.2.1, HE.out.2.2⟩
end Go.Proofs.YtedalanhjhiehaaDoor
