import Derived.Test.YtedalanhjhiehaaDoorRd
set_option linter.unusedSimpArgs false
set_option linter.unusedVariables false
namespace Go.Proofs.YtedalanhjhiehaaDoor
open Go.RowKit
open YtedalanhjhiehaaDoorW.PrintWords (nums ReadsInt rd own_slice own_typed Kd)

theorem appendR_wp {o : Oper} {a : Act} {K : Act → World → Prop} {Q : Exit → Act → World → Prop} {W w0 : World} {B : Nat} {s x : Operand} {sl sx : SL} {xs ys : List Int} (hg : o.guard = none)
    (ho : o.op = .call { callee := .builtin .append, args := #[s, x], argTypes := #[22, 22] }) (hs : a.eval s = .slice sl.a xs.length sl.c) (hx : a.eval x = .slice sx.a ys.length sx.c)
    (HO : OwI W B sl xs) (HR : RdI W sx ys) (HB : Below B w0 W) (hb : B ≤ W.heap.size) (hl : xs.length + ys.length ≤ 2000)
    (h : ∀ sl' w1, OwI w1 B sl' (xs ++ ys) → Below B w0 w1 → W.grownBy w1 sl.blk → (sl'.blk = sl.blk ∨ ∃ b, sl'.blk = some b ∧ W.heap.size ≤ b) → K (a.put o.dst (.slice sl'.a (xs ++ ys).length sl'.c)) w1) : Oper.wp Tryd.prog o a W K Q := by
  have hw : Region.wanted o (yielded #[] a.tmps) = true := by simp [Region.wanted, hg]
  have := Kd.R_append_rows_step (P := Tryd.prog) (ops := #[]) (Q := Q) (Kc := K) kI (w0 := w0) (W := W) B hw s x 22 3 (.int .i64 0) 8 ho Tryd.underlying22 infoI rfl (by decide) (by decide) _ xs ys sx.a ys.length sx.c (fun _ => True) (fun _ => False) hs hx HO.r HR.c (fun _ _ hk => kI_flat hk) (fun _ hk => hk.elim) (fun _ _ => trivial) HB hb (by omega) (fun v1 w1 hR hB hgr hat => by
    obtain ⟨sl', rfl⟩ := kdR_sl hR
    obtain ⟨h1, h2⟩ := app_facts (sl := sl) hgr hat
    exact h sl' w1 ⟨hR⟩ hB h1 h2)
  rwa [if_pos hw] at this
theorem rd_box {w : World} {g : Nat} {y : Int} (h : w.heap[g]? = some (.cells #[.int .i64 y] 3 (0, 0))) : RdI w ⟨some ⟨g, 0, none⟩, 1⟩ [y] := by
  refine ⟨⟨rfl, by simp, fun _ => ⟨_, rfl, fun j p hj => ?_⟩⟩, Nat.le_refl _⟩
  have hj0 : j = 0 := by
    have := (List.getElem?_eq_some_iff.1 hj).1
    simp at this
    exact this
  subst hj0
  simp at hj
  subst hj
  refine ⟨[.int .i64 y], rfl, rfl, fun i u hu => ?_⟩
  have hi0 : i = 0 := by
    have := (List.getElem?_eq_some_iff.1 hu).1
    simp at this
    exact this
  subst hi0
  simp at hu
  subst hu
  have : (⟨g, 0, none⟩ : Addr).add (0 * kI.sz + 0) = ⟨g, 0, none⟩ := by simp [Addr.add]
  rw [this, cell_at h]
  rfl

set_option maxHeartbeats 16000000 in
set_option maxRecDepth 100000 in
theorem take_3 (v : SV) (s : StateP) (u : PV) (r : RecP) (w : World) (h : RdSt w v s) (hl : LensS s) (hr : RdPlan w u r.plan) (hlr : Lens r.plan) (hT : Tab w) (hf : formedB r = true) (hw : whenB r.kind s.ph = true) (ha : askE s r = 0) (hk : r.kind = 3) :
    Calls Tryd.prog 7 #[stV v s, recV u r] w (TkP w (takeP s r)) := by
  have e1 : (r.kind == 1) = false := by rw [hk]; rfl
  have e2 : (r.kind == 2) = false := by rw [hk]; rfl
  have e3 : (r.kind == 3) = true := by rw [hk]; rfl
  have HN : Hid (nextS s r = { s with op := dropL s.op r.step, dn := s.dn ++ [r.step] }) := Lib.hid (by unfold nextS; simp [hk])
  clear hk
  obtain ⟨w3, hw3⟩ : ∃ w3, w3 = ((w.alloc (.cells (stCells v s) 34)).alloc (.cells (recCells u r) 39)).alloc (.cells stZero 34) := ⟨_, rfl⟩
  have hfr := front_of w v s u r
  rw [← hw3] at hfr
  have hx := hfr.st
  have hy := hfr.rc
  have hz := hfr.rs
  have c0 : w3.cell? ⟨w.heap.size, 0, none⟩ = some (.int .i64 s.num) := by rw [cell_at hx]; rfl
  have c1 : w3.cell? ⟨w.heap.size, 1, none⟩ = some (.int .i64 s.ph) := by rw [cell_at hx]; rfl
  have c2 : w3.cell? ⟨w.heap.size, 2, none⟩ = some (v.p.f.v s.plan.fr.length) := by rw [cell_at hx]; rfl
  have c3 : w3.cell? ⟨w.heap.size, 3, none⟩ = some (v.p.t.v s.plan.tt.length) := by rw [cell_at hx]; rfl
  have c4 : w3.cell? ⟨w.heap.size, 4, none⟩ = some (v.p.s.v s.plan.steps.length) := by rw [cell_at hx]; rfl
  have c5 : w3.cell? ⟨w.heap.size, 5, none⟩ = some (v.p.b.v s.plan.before.length) := by rw [cell_at hx]; rfl
  have c6 : w3.cell? ⟨w.heap.size, 6, none⟩ = some (v.o.v s.op.length) := by rw [cell_at hx]; rfl
  have c7 : w3.cell? ⟨w.heap.size, 7, none⟩ = some (v.d.v s.dn.length) := by rw [cell_at hx]; rfl
  have d0 : w3.cell? ⟨w.heap.size + 1, 0, none⟩ = some (.int .i64 r.kind) := by rw [cell_at hy]; rfl
  have d1 : w3.cell? ⟨w.heap.size + 1, 1, none⟩ = some (.int .i64 r.step) := by rw [cell_at hy]; rfl
  have d2 : w3.cell? ⟨w.heap.size + 1, 2, none⟩ = some (u.f.v r.plan.fr.length) := by rw [cell_at hy]; rfl
  have d3 : w3.cell? ⟨w.heap.size + 1, 3, none⟩ = some (u.t.v r.plan.tt.length) := by rw [cell_at hy]; rfl
  have d4 : w3.cell? ⟨w.heap.size + 1, 4, none⟩ = some (u.s.v r.plan.steps.length) := by rw [cell_at hy]; rfl
  have d5 : w3.cell? ⟨w.heap.size + 1, 5, none⟩ = some (u.b.v r.plan.before.length) := by rw [cell_at hy]; rfl
  have H := Lib.hid (h.below hfr.below)
  have HR := Lib.hid (hr.below hfr.below)
  have HT := Lib.hid (hT.below hfr.below)
  have HF := Lib.hid hfr
  have HL := Lib.hid (And.intro hl hlr)
  have HV := Lib.hid hf
  have HW := Lib.hid hw
  have HA := Lib.hid ha
  have HK := Lib.hid (formed_kind hf)
  have HX : Hid (takeP s r = (nextS s r, 0)) := Lib.hid (by unfold takeP; rw [if_neg (by simp [hf]), if_neg (by simp [hw]), if_neg (by simp [ha])])
  clear hf hw ha
  clear h hr hT hfr hx hy hz hl hlr
  unfold stV recV stCells recCells stZero SL.v at *
  go_enter Tryd.func7, Tryd.ntmps7
  go_upto_region 9 with (first | (go_at_call 17; rw [← hw3]; clear hw3; refine (formed_any u r _ HL.out.2).mono ?_; rw [HV.out]; rintro e w4 ⟨rfl, hb⟩; have HB4 := Lib.hid hb; clear hb; have kc0 := keep_cell HB4.out c0; have kc1 := keep_cell HB4.out c1; have kc2 := keep_cell HB4.out c2; have kc3 := keep_cell HB4.out c3; have kc4 := keep_cell HB4.out c4; have kc5 := keep_cell HB4.out c5; have kc6 := keep_cell HB4.out c6; have kc7 := keep_cell HB4.out c7; have kd0 := keep_cell HB4.out d0; have kd1 := keep_cell HB4.out d1; have kd2 := keep_cell HB4.out d2; have kd3 := keep_cell HB4.out d3; have kd4 := keep_cell HB4.out d4; have kd5 := keep_cell HB4.out d5; clear c0 c1 c2 c3 c4 c5 c6 c7 d0 d1 d2 d3 d4 d5) | (go_at_call 18; refine (when_any _ _ _).mono ?_; rw [HW.out]; rintro e w' ⟨rfl, rfl⟩) | (go_at_call 19; refine (ask_any v s u r _ (H.out.below HB4.out) HL.out.1 (HR.out.below HB4.out) HL.out.2 (HT.out.below HB4.out) HK.out.1 HK.out.2).mono ?_; rw [HA.out]; rintro e w5 ⟨rfl, hb⟩; have HB5 := Lib.hid (HB4.out.trans (hb.mono HB4.out.size)); have lc0 := keep_cell hb kc0; have lc1 := keep_cell hb kc1; have lc2 := keep_cell hb kc2; have lc3 := keep_cell hb kc3; have lc4 := keep_cell hb kc4; have lc5 := keep_cell hb kc5; have lc6 := keep_cell hb kc6; have lc7 := keep_cell hb kc7; have ld0 := keep_cell hb kd0; clear hb kc0 kc1 kc2 kc3 kc4 kc5 kc6 kc7 kd0 kd1 kd2 kd3 kd4 kd5) | (go_at_call 20; refine (own_any v s _ (H.out.below HB5.out) HL.out.1).mono ?_; rintro e w6 ⟨v1, rfl, ho, hb, hap⟩; have HO := Lib.hid ho; have HAp := Lib.hid hap; clear hap; have HB6 := Lib.hid (HB5.out.trans (hb.mono HB5.out.size)); have mc0 := keep_cell hb lc0; have mc1 := keep_cell hb lc1; have mc2 := keep_cell hb lc2; have mc3 := keep_cell hb lc3; have mc4 := keep_cell hb lc4; have mc5 := keep_cell hb lc5; have mc6 := keep_cell hb lc6; have mc7 := keep_cell hb lc7; have hx6 := (HF.out.at_ HB6.out).1; have f0 : w6.frozen? ⟨w.heap.size, 0, none⟩ = false := frozen_at hx6 _; have f1 : w6.frozen? ⟨w.heap.size, 1, none⟩ = false := frozen_at hx6 _; have f2 : w6.frozen? ⟨w.heap.size, 2, none⟩ = false := frozen_at hx6 _; have f3 : w6.frozen? ⟨w.heap.size, 3, none⟩ = false := frozen_at hx6 _; have f4 : w6.frozen? ⟨w.heap.size, 4, none⟩ = false := frozen_at hx6 _; have f5 : w6.frozen? ⟨w.heap.size, 5, none⟩ = false := frozen_at hx6 _; have f6 : w6.frozen? ⟨w.heap.size, 6, none⟩ = false := frozen_at hx6 _; have f7 : w6.frozen? ⟨w.heap.size, 7, none⟩ = false := frozen_at hx6 _; clear hb ho hx6 lc0 lc1 lc2 lc3 lc4 lc5 lc6 lc7 ld0))
  obtain ⟨hx6, hy6, hz6⟩ := HF.out.at_ HB6.out
  have hB5 : w.heap.size + 3 ≤ w5.heap.size := by have := HB5.out.size; have := HF.out.size; omega
  have hx7 := (heap_set_same (heap_set_same (heap_set_same (heap_set_same (heap_set_same (heap_set_same (heap_set_same (heap_set_same hx6 0 (.int .i64 s.num)) 1 (.int .i64 s.ph)) 2 (v1.p.f.v s.plan.fr.length)) 3 (v1.p.t.v s.plan.tt.length)) 4 (v1.p.s.v s.plan.steps.length)) 5 (v1.p.b.v s.plan.before.length)) 6 (v1.o.v s.op.length)) 7 (v1.d.v s.dn.length))
  simp only [List.setIfInBounds_toArray, List.set_cons_zero, List.set_cons_succ] at hx7
  obtain ⟨w7, hw7⟩ : ∃ w7, w7 = ((((((((w6.setCell ⟨w.heap.size, 0, none⟩ (.int .i64 s.num)).setCell ⟨w.heap.size, 1, none⟩ (.int .i64 s.ph)).setCell ⟨w.heap.size, 2, none⟩ (v1.p.f.v s.plan.fr.length)).setCell ⟨w.heap.size, 3, none⟩ (v1.p.t.v s.plan.tt.length)).setCell ⟨w.heap.size, 4, none⟩ (v1.p.s.v s.plan.steps.length)).setCell ⟨w.heap.size, 5, none⟩ (v1.p.b.v s.plan.before.length)).setCell ⟨w.heap.size, 6, none⟩ (v1.o.v s.op.length)).setCell ⟨w.heap.size, 7, none⟩ (v1.d.v s.dn.length)) := ⟨_, rfl⟩
  have k7 : Kp (w.heap.size + 1) w6 w7 := by
    rw [hw7]
    exact (((((((((Kp.refl (w.heap.size + 1) w6).set (p := ⟨_, 0, none⟩) (Nat.lt_succ_self _) _).set (p := ⟨_, 1, none⟩) (Nat.lt_succ_self _) _).set (p := ⟨_, 2, none⟩) (Nat.lt_succ_self _) _).set (p := ⟨_, 3, none⟩) (Nat.lt_succ_self _) _).set (p := ⟨_, 4, none⟩) (Nat.lt_succ_self _) _).set (p := ⟨_, 5, none⟩) (Nat.lt_succ_self _) _).set (p := ⟨_, 6, none⟩) (Nat.lt_succ_self _) _).set (p := ⟨_, 7, none⟩) (Nat.lt_succ_self _) _)
  have hb7 : Hid (Below w.heap.size w w7) := by
    rw [hw7]
    exact st_below (st_below (st_below (st_below (st_below (st_below (st_below (st_below ((Lib.hid (HF.out.below.trans (HB6.out.mono HF.out.below.size)))) (Nat.le_refl _)) (Nat.le_refl _)) (Nat.le_refl _)) (Nat.le_refl _)) (Nat.le_refl _)) (Nat.le_refl _)) (Nat.le_refl _)) (Nat.le_refl _)
  have hz7 := (k7 (w.heap.size + 2) (by omega)).trans hz6
  have hy7 := (k7 (w.heap.size + 1) (by omega)).trans hy6
  have hs7 : w.heap.size + 3 ≤ w7.heap.size := by rw [hw7]; simp [World.setCell]; have := HB6.out.size; have := HF.out.size; omega
  have OO : OwSt w7 (w.heap.size + 3) v1 s := (HO.out.step k7 (by omega)).lower hB5
  unfold SL.v at hw7
  rw [← hw7] at hx7 ⊢
  clear hw7 k7 mc0 mc1 mc2 mc3 mc4 mc5 mc6 mc7 f0 f1 f2 f3 f4 f5 f6 f7 hx6 hy6 hz6
  have g0 : w7.cell? ⟨w.heap.size, 0, none⟩ = some (.int .i64 s.num) := by rw [cell_at hx7]; rfl
  have g1 : w7.cell? ⟨w.heap.size, 1, none⟩ = some (.int .i64 s.ph) := by rw [cell_at hx7]; rfl
  have g2 : w7.cell? ⟨w.heap.size, 2, none⟩ = some (v1.p.f.v s.plan.fr.length) := by rw [cell_at hx7]; rfl
  have g3 : w7.cell? ⟨w.heap.size, 3, none⟩ = some (v1.p.t.v s.plan.tt.length) := by rw [cell_at hx7]; rfl
  have g4 : w7.cell? ⟨w.heap.size, 4, none⟩ = some (v1.p.s.v s.plan.steps.length) := by rw [cell_at hx7]; rfl
  have g5 : w7.cell? ⟨w.heap.size, 5, none⟩ = some (v1.p.b.v s.plan.before.length) := by rw [cell_at hx7]; rfl
  have g6 : w7.cell? ⟨w.heap.size, 6, none⟩ = some (v1.o.v s.op.length) := by rw [cell_at hx7]; rfl
  have g7 : w7.cell? ⟨w.heap.size, 7, none⟩ = some (v1.d.v s.dn.length) := by rw [cell_at hx7]; rfl
  have f0 : w7.frozen? ⟨w.heap.size, 0, none⟩ = false := frozen_at hx7 _
  have f1 : w7.frozen? ⟨w.heap.size, 1, none⟩ = false := frozen_at hx7 _
  have f2 : w7.frozen? ⟨w.heap.size, 2, none⟩ = false := frozen_at hx7 _
  have f3 : w7.frozen? ⟨w.heap.size, 3, none⟩ = false := frozen_at hx7 _
  have f4 : w7.frozen? ⟨w.heap.size, 4, none⟩ = false := frozen_at hx7 _
  have f5 : w7.frozen? ⟨w.heap.size, 5, none⟩ = false := frozen_at hx7 _
  have f6 : w7.frozen? ⟨w.heap.size, 6, none⟩ = false := frozen_at hx7 _
  have f7 : w7.frozen? ⟨w.heap.size, 7, none⟩ = false := frozen_at hx7 _
  have d0 : w7.cell? ⟨w.heap.size + 1, 0, none⟩ = some (.int .i64 r.kind) := by rw [cell_at hy7]; rfl
  have d1 : w7.cell? ⟨w.heap.size + 1, 1, none⟩ = some (.int .i64 r.step) := by rw [cell_at hy7]; rfl
  have d2 : w7.cell? ⟨w.heap.size + 1, 2, none⟩ = some (u.f.v r.plan.fr.length) := by rw [cell_at hy7]; rfl
  have d3 : w7.cell? ⟨w.heap.size + 1, 3, none⟩ = some (u.t.v r.plan.tt.length) := by rw [cell_at hy7]; rfl
  have d4 : w7.cell? ⟨w.heap.size + 1, 4, none⟩ = some (u.s.v r.plan.steps.length) := by rw [cell_at hy7]; rfl
  have d5 : w7.cell? ⟨w.heap.size + 1, 5, none⟩ = some (u.b.v r.plan.before.length) := by rw [cell_at hy7]; rfl
  have r0 : w7.cell? ⟨w.heap.size + 2, 0, none⟩ = some (.int .i64 0) := by rw [cell_at hz7]; rfl
  have r1 : w7.cell? ⟨w.heap.size + 2, 1, none⟩ = some (.int .i64 0) := by rw [cell_at hz7]; rfl
  have r2 : w7.cell? ⟨w.heap.size + 2, 2, none⟩ = some (.slice none 0 0) := by rw [cell_at hz7]; rfl
  have r3 : w7.cell? ⟨w.heap.size + 2, 3, none⟩ = some (.slice none 0 0) := by rw [cell_at hz7]; rfl
  have r4 : w7.cell? ⟨w.heap.size + 2, 4, none⟩ = some (.slice none 0 0) := by rw [cell_at hz7]; rfl
  have r5 : w7.cell? ⟨w.heap.size + 2, 5, none⟩ = some (.slice none 0 0) := by rw [cell_at hz7]; rfl
  have r6 : w7.cell? ⟨w.heap.size + 2, 6, none⟩ = some (.slice none 0 0) := by rw [cell_at hz7]; rfl
  have r7 : w7.cell? ⟨w.heap.size + 2, 7, none⟩ = some (.slice none 0 0) := by rw [cell_at hz7]; rfl
  have q0 : w7.frozen? ⟨w.heap.size + 2, 0, none⟩ = false := frozen_at hz7 _
  have q1 : w7.frozen? ⟨w.heap.size + 2, 1, none⟩ = false := frozen_at hz7 _
  have q2 : w7.frozen? ⟨w.heap.size + 2, 2, none⟩ = false := frozen_at hz7 _
  have q3 : w7.frozen? ⟨w.heap.size + 2, 3, none⟩ = false := frozen_at hz7 _
  have q4 : w7.frozen? ⟨w.heap.size + 2, 4, none⟩ = false := frozen_at hz7 _
  have q5 : w7.frozen? ⟨w.heap.size + 2, 5, none⟩ = false := frozen_at hz7 _
  have q6 : w7.frozen? ⟨w.heap.size + 2, 6, none⟩ = false := frozen_at hz7 _
  have q7 : w7.frozen? ⟨w.heap.size + 2, 7, none⟩ = false := frozen_at hz7 _
  unfold SL.v at g2 g3 g4 g5 g6 g7 d2 d3 d4 d5
  have HOO := Lib.hid (And.intro OO (And.intro hx7 (And.intro hy7 (And.intro hz7 (And.intro hb7.out hs7)))))
  clear OO hx7 hy7 hz7 hb7 hs7
  go_upto_region 15 with (fail)
  refine wp_region_K (N := 15) (fun w' => w'.cell? ⟨w.heap.size, 6, none⟩ = some (.slice v1.o.a s.op.length v1.o.c) ∧ w'.cell? ⟨w.heap.size, 7, none⟩ = some (.slice v1.d.a s.dn.length v1.d.c) ∧ w'.cell? ⟨w.heap.size + 1, 1, none⟩ = some (.int .i64 r.step)) 12 (by kernel_rfl) rfl ?_
  have HS := ((And.intro g6 (And.intro g7 d1)) : (fun w' => w'.cell? ⟨w.heap.size, 6, none⟩ = some (.slice v1.o.a s.op.length v1.o.c) ∧ w'.cell? ⟨w.heap.size, 7, none⟩ = some (.slice v1.d.a s.dn.length v1.d.c) ∧ w'.cell? ⟨w.heap.size + 1, 1, none⟩ = some (.int .i64 r.step)) w7.drew)
  refine wpAnyK_take (i := 0) (g := 15) (v := .pointer (some ⟨w.heap.size, 6, none⟩)) rfl (by kernel_rfl) (fun _ _ _ h => h) (Or.inl ⟨by rfl, fun w' hw' => ?_⟩) HS ?_
  · obtain ⟨k0, k1, k2⟩ := hw'
    go_simp
  try simp only [Act.put, List.setIfInBounds_toArray, List.set_cons_zero, List.set_cons_succ]
  refine wpAnyK_take (i := 1) (g := 15) (v := .slice v1.o.a s.op.length v1.o.c) rfl (by kernel_rfl) (fun _ _ _ h => h) (Or.inl ⟨by rfl, fun w' hw' => ?_⟩) HS ?_
  · obtain ⟨k0, k1, k2⟩ := hw'
    go_simp
  try simp only [Act.put, List.setIfInBounds_toArray, List.set_cons_zero, List.set_cons_succ]
  refine wpAnyK_take (i := 2) (g := 15) (v := .pointer (some ⟨w.heap.size + 1, 1, none⟩)) rfl (by kernel_rfl) (fun _ _ _ h => h) (Or.inl ⟨by rfl, fun w' hw' => ?_⟩) HS ?_
  · obtain ⟨k0, k1, k2⟩ := hw'
    go_simp
  try simp only [Act.put, List.setIfInBounds_toArray, List.set_cons_zero, List.set_cons_succ]
  refine wpAnyK_take (i := 3) (g := 15) (v := .int .i64 r.step) rfl (by kernel_rfl) (fun _ _ _ h => h) (Or.inl ⟨by rfl, fun w' hw' => ?_⟩) HS ?_
  · obtain ⟨k0, k1, k2⟩ := hw'
    go_simp
  try simp only [Act.put, List.setIfInBounds_toArray, List.set_cons_zero, List.set_cons_succ]
  refine wpAnyK_take (i := 5) (g := 15) (v := .pointer (some ⟨w.heap.size, 7, none⟩)) rfl (by kernel_rfl) (fun _ _ _ h => h) (Or.inl ⟨by rfl, fun w' hw' => ?_⟩) HS ?_
  · obtain ⟨k0, k1, k2⟩ := hw'
    go_simp
  try simp only [Act.put, List.setIfInBounds_toArray, List.set_cons_zero, List.set_cons_succ]
  refine wpAnyK_take (i := 6) (g := 15) (v := .slice v1.d.a s.dn.length v1.d.c) rfl (by kernel_rfl) (fun _ _ _ h => h) (Or.inl ⟨by rfl, fun w' hw' => ?_⟩) HS ?_
  · obtain ⟨k0, k1, k2⟩ := hw'
    go_simp
  try simp only [Act.put, List.setIfInBounds_toArray, List.set_cons_zero, List.set_cons_succ]
  refine wpAnyK_take (i := 7) (g := 15) (v := .pointer (some ⟨w.heap.size + 1, 1, none⟩)) rfl (by kernel_rfl) (fun _ _ _ h => h) (Or.inl ⟨by rfl, fun w' hw' => ?_⟩) HS ?_
  · obtain ⟨k0, k1, k2⟩ := hw'
    go_simp
  try simp only [Act.put, List.setIfInBounds_toArray, List.set_cons_zero, List.set_cons_succ]
  refine wpAnyK_take (i := 8) (g := 15) (v := .int .i64 r.step) rfl (by kernel_rfl) (fun _ _ _ h => h) (Or.inl ⟨by rfl, fun w' hw' => ?_⟩) HS ?_
  · obtain ⟨k0, k1, k2⟩ := hw'
    go_simp
  try simp only [Act.put, List.setIfInBounds_toArray, List.set_cons_zero, List.set_cons_succ]
  have HSh := Lib.hid HS
  clear HS
  refine wpAnyK_two (i := 4) (i' := 9) (by kernel_rfl) rfl rfl rfl rfl (fun K hK => ?_) (fun K hK => ?_)
  · skip
    go_simp
    refine (drop_any v1.o s.op r.step w7.drew (RdI.below (w := w7) (w' := w7.drew) HOO.out.1.o.rd ⟨rfl, rfl, rfl, Nat.le_refl _, fun _ _ => rfl⟩) HL.out.1.o).mono ?_
    rintro e w8 ⟨s8, rfl, ho8, hb8⟩
    have hb8' : Below w7.heap.size w7 w8 := ⟨hb8.os, hb8.tape, hb8.output, hb8.size, hb8.block⟩
    have HA8 := Lib.hid (And.intro ho8 hb8')
    have HSA := Lib.hid ((And.intro (keep_cell hb8 HSh.out.1) (And.intro (keep_cell hb8 HSh.out.2.1) (keep_cell hb8 HSh.out.2.2))) : (fun w' => w'.cell? ⟨w.heap.size, 6, none⟩ = some (.slice v1.o.a s.op.length v1.o.c) ∧ w'.cell? ⟨w.heap.size, 7, none⟩ = some (.slice v1.d.a s.dn.length v1.d.c) ∧ w'.cell? ⟨w.heap.size + 1, 1, none⟩ = some (.int .i64 r.step)) w8)
    clear ho8 hb8 hb8'
    go_wp2_with fail
    refine hK.out _ _ (fun _ => HSA.out) ?_
    clear hK K
    try simp only [Act.put, List.setIfInBounds_toArray, List.set_cons_zero, List.set_cons_succ]
    refine wpAnyK_take (i := 11) (g := 15) (v := .pointer (some ⟨w.heap.size, 6, none⟩)) rfl (by kernel_rfl) (fun _ _ _ h => h) (Or.inl ⟨by rfl, fun w' hw' => ?_⟩) HSA.out ?_
    · obtain ⟨k0, k1, k2⟩ := hw'
      go_simp
    try simp only [Act.put, List.setIfInBounds_toArray, List.set_cons_zero, List.set_cons_succ]
    refine wpAnyK_one (i := 9) (by kernel_rfl) rfl rfl (fun K hK => ?_)
    go_simp
    refine hK.out _ _ (fun _ => (And.intro (keep_cell ((Below.refl w8.heap.size w8).alloc (Nat.le_refl _) _) HSA.out.1) (And.intro (keep_cell ((Below.refl w8.heap.size w8).alloc (Nat.le_refl _) _) HSA.out.2.1) (keep_cell ((Below.refl w8.heap.size w8).alloc (Nat.le_refl _) _) HSA.out.2.2)))) ?_
    clear hK K
    try simp only [Act.put, List.setIfInBounds_toArray, List.set_cons_zero, List.set_cons_succ]
    obtain ⟨wa, hwa⟩ : ∃ wa, wa = w8.alloc (.cells #[.int .i64 r.step] 3) := ⟨_, rfl⟩
    rw [← hwa]
    obtain ⟨bx, hbx⟩ : ∃ bx, bx = w8.heap.size := ⟨_, rfl⟩
    rw [← hbx]
    have hba : Below w8.heap.size w8 wa := by rw [hwa]; exact (Below.refl _ _).alloc (Nat.le_refl _) _
    have HX8 : Hid (RdI wa ⟨some ⟨bx, 0, none⟩, 1⟩ [r.step]) := Lib.hid (by rw [hwa, hbx]; exact rd_box (heap_alloc_new w8 _))
    have HO8 : Hid (OwI wa w7.heap.size s8 (dropL s.op r.step)) := Lib.hid (HA8.out.1.below hba)
    have HB8 : Hid (Below w7.heap.size w7 wa) := Lib.hid (HA8.out.2.trans (hba.mono HA8.out.2.size))
    clear hwa hbx hba
    refine wpAnyK_one (i := 10) (by kernel_rfl) rfl rfl (fun K hK => ?_)
    refine appendR_wp (W := wa) (w0 := w7) (B := w.heap.size + 3) (s := .tmp 57) (x := .tmp 60) (sl := v1.d) (sx := ⟨some ⟨bx, 0, none⟩, 1⟩) (xs := s.dn) (ys := [r.step]) rfl rfl rfl rfl (HOO.out.1.d.below HB8.out) HX8.out (HB8.out.mono HOO.out.2.2.2.2.2) (Nat.le_trans HOO.out.2.2.2.2.2 HB8.out.size) (by have := HL.out.1.d; simp; omega) ?_
    intro s9 w9 ho9 hb9 hg9 hat9
    have hx9 := grown_blk (HOO.out.1.d.below HB8.out) hg9 (by omega) ((HB8.out.block _ (by have := HOO.out.2.2.2.2.2; omega)).trans HOO.out.2.1)
    have hy9 := grown_blk (HOO.out.1.d.below HB8.out) hg9 (by omega) ((HB8.out.block _ (by have := HOO.out.2.2.2.2.2; omega)).trans HOO.out.2.2.1)
    have hz9 := grown_blk (HOO.out.1.d.below HB8.out) hg9 (by omega) ((HB8.out.block _ (by have := HOO.out.2.2.2.2.2; omega)).trans HOO.out.2.2.2.1)
    have HS9 : Hid ((fun w' => w'.cell? ⟨w.heap.size, 6, none⟩ = some (.slice v1.o.a s.op.length v1.o.c) ∧ w'.cell? ⟨w.heap.size, 7, none⟩ = some (.slice v1.d.a s.dn.length v1.d.c) ∧ w'.cell? ⟨w.heap.size + 1, 1, none⟩ = some (.int .i64 r.step)) w9) := Lib.hid (And.intro (by rw [cell_at hx9]; rfl) (And.intro (by rw [cell_at hx9]; rfl) (by rw [cell_at hy9]; rfl)))
    have h8d : ∀ k, s8.blk = some k → v1.d.blk ≠ some k := fun k h1 h2 => by
      have := (HO8.out.blk k h1).1
      have := (HOO.out.1.d.blk k h2).2
      omega
    have O9 : OwSt w9 (w.heap.size + 3) ⟨v1.p, s8, s9⟩ ({ s with op := dropL s.op r.step, dn := s.dn ++ [r.step] }) := ⟨doneI_frame (v := v1) (s := s) (HOO.out.1.below HB8.out) HAp.out hg9, (HO8.out.grown hg9 h8d).lower HOO.out.2.2.2.2.2, ho9⟩
    have G0 : w9.cell? ⟨w.heap.size, 0, none⟩ = some (.int .i64 s.num) := by rw [cell_at hx9]; rfl
    have F0 : w9.frozen? ⟨w.heap.size, 0, none⟩ = false := frozen_at hx9 _
    have G1 : w9.cell? ⟨w.heap.size, 1, none⟩ = some (.int .i64 s.ph) := by rw [cell_at hx9]; rfl
    have F1 : w9.frozen? ⟨w.heap.size, 1, none⟩ = false := frozen_at hx9 _
    have G2 : w9.cell? ⟨w.heap.size, 2, none⟩ = some (v1.p.f.v s.plan.fr.length) := by rw [cell_at hx9]; rfl
    have F2 : w9.frozen? ⟨w.heap.size, 2, none⟩ = false := frozen_at hx9 _
    have G3 : w9.cell? ⟨w.heap.size, 3, none⟩ = some (v1.p.t.v s.plan.tt.length) := by rw [cell_at hx9]; rfl
    have F3 : w9.frozen? ⟨w.heap.size, 3, none⟩ = false := frozen_at hx9 _
    have G4 : w9.cell? ⟨w.heap.size, 4, none⟩ = some (v1.p.s.v s.plan.steps.length) := by rw [cell_at hx9]; rfl
    have F4 : w9.frozen? ⟨w.heap.size, 4, none⟩ = false := frozen_at hx9 _
    have G5 : w9.cell? ⟨w.heap.size, 5, none⟩ = some (v1.p.b.v s.plan.before.length) := by rw [cell_at hx9]; rfl
    have F5 : w9.frozen? ⟨w.heap.size, 5, none⟩ = false := frozen_at hx9 _
    have G6 : w9.cell? ⟨w.heap.size, 6, none⟩ = some (v1.o.v s.op.length) := by rw [cell_at hx9]; rfl
    have F6 : w9.frozen? ⟨w.heap.size, 6, none⟩ = false := frozen_at hx9 _
    have G7 : w9.cell? ⟨w.heap.size, 7, none⟩ = some (v1.d.v s.dn.length) := by rw [cell_at hx9]; rfl
    have F7 : w9.frozen? ⟨w.heap.size, 7, none⟩ = false := frozen_at hx9 _
    have k8 : Kp (w.heap.size + 1) w9 ((w9.setCell ⟨w.heap.size, 6, none⟩ (s8.v (dropL s.op r.step).length)).setCell ⟨w.heap.size, 7, none⟩ (s9.v (s.dn ++ [r.step]).length)) := ((Kp.refl _ _).set (p := ⟨_, 6, none⟩) (Nat.lt_succ_self _) _).set (p := ⟨_, 7, none⟩) (Nat.lt_succ_self _) _
    have hz10 := (k8 (w.heap.size + 2) (by omega)).trans hz9
    have hx10 := heap_set_same (heap_set_same hx9 6 (s8.v (dropL s.op r.step).length)) 7 (s9.v (s.dn ++ [r.step]).length)
    simp only [List.setIfInBounds_toArray, List.set_cons_zero, List.set_cons_succ] at hx10
    have hb9w : Below w.heap.size w w9 := HOO.out.2.2.2.2.1.trans (hb9.mono (Nat.le_add_right _ _))
    have hb10 := st_below (p := ⟨w.heap.size, 7, none⟩) (v := s9.v (s.dn ++ [r.step]).length) (st_below (p := ⟨w.heap.size, 6, none⟩) (v := s8.v (dropL s.op r.step).length) (Lib.hid hb9w) (Nat.le_refl _)) (Nat.le_refl _)
    have hfin := (heap_set_same (heap_set_same (heap_set_same (heap_set_same (heap_set_same (heap_set_same (heap_set_same (heap_set_same hz10 0 (.int .i64 s.num)) 1 (.int .i64 s.ph)) 2 (v1.p.f.v s.plan.fr.length)) 3 (v1.p.t.v s.plan.tt.length)) 4 (v1.p.s.v s.plan.steps.length)) 5 (v1.p.b.v s.plan.before.length)) 6 (s8.v (dropL s.op r.step).length)) 7 (s9.v (s.dn ++ [r.step]).length))
    simp only [List.setIfInBounds_toArray, List.set_cons_zero, List.set_cons_succ] at hfin
    have k9 : Kp (w.heap.size + 3) ((w9.setCell ⟨w.heap.size, 6, none⟩ (s8.v (dropL s.op r.step).length)).setCell ⟨w.heap.size, 7, none⟩ (s9.v (s.dn ++ [r.step]).length)) ((((((((((w9.setCell ⟨w.heap.size, 6, none⟩ (s8.v (dropL s.op r.step).length)).setCell ⟨w.heap.size, 7, none⟩ (s9.v (s.dn ++ [r.step]).length)).setCell ⟨w.heap.size + 2, 0, none⟩ (.int .i64 s.num)).setCell ⟨w.heap.size + 2, 1, none⟩ (.int .i64 s.ph)).setCell ⟨w.heap.size + 2, 2, none⟩ (v1.p.f.v s.plan.fr.length)).setCell ⟨w.heap.size + 2, 3, none⟩ (v1.p.t.v s.plan.tt.length)).setCell ⟨w.heap.size + 2, 4, none⟩ (v1.p.s.v s.plan.steps.length)).setCell ⟨w.heap.size + 2, 5, none⟩ (v1.p.b.v s.plan.before.length)).setCell ⟨w.heap.size + 2, 6, none⟩ (s8.v (dropL s.op r.step).length)).setCell ⟨w.heap.size + 2, 7, none⟩ (s9.v (s.dn ++ [r.step]).length)) := (((((((((Kp.refl (w.heap.size + 3) ((w9.setCell ⟨w.heap.size, 6, none⟩ (s8.v (dropL s.op r.step).length)).setCell ⟨w.heap.size, 7, none⟩ (s9.v (s.dn ++ [r.step]).length))).set (p := ⟨_, 0, none⟩) (Nat.lt_succ_self _) _).set (p := ⟨_, 1, none⟩) (Nat.lt_succ_self _) _).set (p := ⟨_, 2, none⟩) (Nat.lt_succ_self _) _).set (p := ⟨_, 3, none⟩) (Nat.lt_succ_self _) _).set (p := ⟨_, 4, none⟩) (Nat.lt_succ_self _) _).set (p := ⟨_, 5, none⟩) (Nat.lt_succ_self _) _).set (p := ⟨_, 6, none⟩) (Nat.lt_succ_self _) _).set (p := ⟨_, 7, none⟩) (Nat.lt_succ_self _) _)
    have hb9 : Hid (Below w.heap.size w ((((((((((w9.setCell ⟨w.heap.size, 6, none⟩ (s8.v (dropL s.op r.step).length)).setCell ⟨w.heap.size, 7, none⟩ (s9.v (s.dn ++ [r.step]).length)).setCell ⟨w.heap.size + 2, 0, none⟩ (.int .i64 s.num)).setCell ⟨w.heap.size + 2, 1, none⟩ (.int .i64 s.ph)).setCell ⟨w.heap.size + 2, 2, none⟩ (v1.p.f.v s.plan.fr.length)).setCell ⟨w.heap.size + 2, 3, none⟩ (v1.p.t.v s.plan.tt.length)).setCell ⟨w.heap.size + 2, 4, none⟩ (v1.p.s.v s.plan.steps.length)).setCell ⟨w.heap.size + 2, 5, none⟩ (v1.p.b.v s.plan.before.length)).setCell ⟨w.heap.size + 2, 6, none⟩ (s8.v (dropL s.op r.step).length)).setCell ⟨w.heap.size + 2, 7, none⟩ (s9.v (s.dn ++ [r.step]).length))) := st_below (st_below (st_below (st_below (st_below (st_below (st_below (st_below (hb10) (Nat.le_add_right _ _)) (Nat.le_add_right _ _)) (Nat.le_add_right _ _)) (Nat.le_add_right _ _)) (Nat.le_add_right _ _)) (Nat.le_add_right _ _)) (Nat.le_add_right _ _)) (Nat.le_add_right _ _)
    have HE := Lib.hid (And.intro hfin (And.intro (OwSt.lower (B' := w.heap.size) (OwSt.step (OwSt.step O9 k8 (by omega)) k9 (Nat.le_refl _)) (Nat.le_add_right _ _)) hb9.out))
    clear hfin k9 hb9
    obtain ⟨wt, hwt⟩ : ∃ wt, wt = ((w9.setCell ⟨w.heap.size, 6, none⟩ (s8.v (dropL s.op r.step).length)).setCell ⟨w.heap.size, 7, none⟩ (s9.v (s.dn ++ [r.step]).length)) := ⟨_, rfl⟩
    rw [← hwt] at hx10 hz10 HE
    have J0 : wt.cell? ⟨w.heap.size, 0, none⟩ = some (.int .i64 s.num) := by rw [cell_at hx10]; rfl
    have J1 : wt.cell? ⟨w.heap.size, 1, none⟩ = some (.int .i64 s.ph) := by rw [cell_at hx10]; rfl
    have J2 : wt.cell? ⟨w.heap.size, 2, none⟩ = some (v1.p.f.v s.plan.fr.length) := by rw [cell_at hx10]; rfl
    have J3 : wt.cell? ⟨w.heap.size, 3, none⟩ = some (v1.p.t.v s.plan.tt.length) := by rw [cell_at hx10]; rfl
    have J4 : wt.cell? ⟨w.heap.size, 4, none⟩ = some (v1.p.s.v s.plan.steps.length) := by rw [cell_at hx10]; rfl
    have J5 : wt.cell? ⟨w.heap.size, 5, none⟩ = some (v1.p.b.v s.plan.before.length) := by rw [cell_at hx10]; rfl
    have J6 : wt.cell? ⟨w.heap.size, 6, none⟩ = some (s8.v (dropL s.op r.step).length) := by rw [cell_at hx10]; rfl
    have J7 : wt.cell? ⟨w.heap.size, 7, none⟩ = some (s9.v (s.dn ++ [r.step]).length) := by rw [cell_at hx10]; rfl
    have R'0 : wt.cell? ⟨w.heap.size + 2, 0, none⟩ = some (.int .i64 0) := by rw [cell_at hz10]; rfl
    have Q'0 : wt.frozen? ⟨w.heap.size + 2, 0, none⟩ = false := frozen_at hz10 _
    have R'1 : wt.cell? ⟨w.heap.size + 2, 1, none⟩ = some (.int .i64 0) := by rw [cell_at hz10]; rfl
    have Q'1 : wt.frozen? ⟨w.heap.size + 2, 1, none⟩ = false := frozen_at hz10 _
    have R'2 : wt.cell? ⟨w.heap.size + 2, 2, none⟩ = some (.slice none 0 0) := by rw [cell_at hz10]; rfl
    have Q'2 : wt.frozen? ⟨w.heap.size + 2, 2, none⟩ = false := frozen_at hz10 _
    have R'3 : wt.cell? ⟨w.heap.size + 2, 3, none⟩ = some (.slice none 0 0) := by rw [cell_at hz10]; rfl
    have Q'3 : wt.frozen? ⟨w.heap.size + 2, 3, none⟩ = false := frozen_at hz10 _
    have R'4 : wt.cell? ⟨w.heap.size + 2, 4, none⟩ = some (.slice none 0 0) := by rw [cell_at hz10]; rfl
    have Q'4 : wt.frozen? ⟨w.heap.size + 2, 4, none⟩ = false := frozen_at hz10 _
    have R'5 : wt.cell? ⟨w.heap.size + 2, 5, none⟩ = some (.slice none 0 0) := by rw [cell_at hz10]; rfl
    have Q'5 : wt.frozen? ⟨w.heap.size + 2, 5, none⟩ = false := frozen_at hz10 _
    have R'6 : wt.cell? ⟨w.heap.size + 2, 6, none⟩ = some (.slice none 0 0) := by rw [cell_at hz10]; rfl
    have Q'6 : wt.frozen? ⟨w.heap.size + 2, 6, none⟩ = false := frozen_at hz10 _
    have R'7 : wt.cell? ⟨w.heap.size + 2, 7, none⟩ = some (.slice none 0 0) := by rw [cell_at hz10]; rfl
    have Q'7 : wt.frozen? ⟨w.heap.size + 2, 7, none⟩ = false := frozen_at hz10 _
    have HW10 := Lib.hid hwt
    clear hwt hx10 hz10 hb10 k8 hx9 hz9 hy9 O9 ho9 hb9 hg9 hat9 hb9w h8d
    refine hK.out _ _ (fun _ => HS9.out) ?_
    clear hK K
    try simp only [Act.put, List.setIfInBounds_toArray, List.set_cons_zero, List.set_cons_succ]
    refine wpAnyK_one (i := 12) (by kernel_rfl) rfl rfl (fun K hK => ?_)
    go_simp
    refine hK.out _ _ (fun h => nomatch (show true = false from h)) ?_
    clear hK K
    try simp only [Act.put, List.setIfInBounds_toArray, List.set_cons_zero, List.set_cons_succ]
    refine wpAnyK_one (i := 13) (by kernel_rfl) rfl rfl (fun K hK => ?_)
    go_simp
    refine hK.out _ _ (fun h => nomatch (show true = false from h)) ?_
    clear hK K
    try simp only [Act.put, List.setIfInBounds_toArray, List.set_cons_zero, List.set_cons_succ]
    refine wpAnyK_one (i := 14) (by kernel_rfl) rfl rfl (fun K hK => ?_)
    go_simp
    refine hK.out _ _ (fun h => nomatch (show true = false from h)) ?_
    clear hK K
    try simp only [Act.put, List.setIfInBounds_toArray, List.set_cons_zero, List.set_cons_succ]
    refine wpAnyK_done (by kernel_rfl) ?_
    have hwt := HW10.out
    have hlen : (s.dn ++ [r.step]).length = s.dn.length + 1 := by simp
    unfold SL.v at hwt
    first | rw [← hwt] | (rw [← hlen, ← hwt]) | (rw [hlen] at hwt; rw [← hwt])
    clear hwt hlen G0 F0 G1 F1 G2 F2 G3 F3 G4 F4 G5 F5 G6 F6 G7 F7
    unfold SL.v at J2 J3 J4 J5 J6 J7
    go_wp2
    try rw [show s.dn.length + 1 = (s.dn ++ [r.step]).length from by simp]
    refine bodyPost_ret (v := .tuple #[stV ⟨v1.p, s8, s9⟩ ({ s with op := dropL s.op r.step, dn := s.dn ++ [r.step] }), .int .i64 0]) (YtedalanhjhiehaaDoorW.PrintWords.results_list (rs := [.cell 4 34, .tmp 5]) rfl (by simp) (.cell (w.heap.size + 2) 34 _ _ _ rfl HE.out.1 Tryd.underlying34 rfl (by kernel_rfl) (.tmp .nil))) rfl ?_
    rw [HX.out, HN.out]
    exact ⟨⟨v1.p, s8, s9⟩, rfl, HE.out.2.1, HE.out.2.2⟩
  · skip
    go_simp
    obtain ⟨wb, hwb⟩ : ∃ wb, wb = (w7.alloc (.cells #[.int .i64 r.step] 3)).drew := ⟨_, rfl⟩
    obtain ⟨bx, hbx⟩ : ∃ bx, bx = w7.heap.size := ⟨_, rfl⟩
    have hbb : Below w7.heap.size w7 wb := by
      have hq : Below w7.heap.size w7 (w7.alloc (.cells #[.int .i64 r.step] 3)) := (Below.refl _ _).alloc (Nat.le_refl _) _
      rw [hwb]; exact ⟨hq.os, hq.tape, hq.output, hq.size, hq.block⟩
    have hbb' : Below w7.drew.heap.size w7.drew wb := ⟨hbb.os, hbb.tape, hbb.output, hbb.size, hbb.block⟩
    refine hK.out _ _ (fun _ => ?_) ?_
    · rw [← hwb]; exact ((And.intro (keep_cell hbb' HSh.out.1) (And.intro (keep_cell hbb' HSh.out.2.1) (keep_cell hbb' HSh.out.2.2))) : (fun w' => w'.cell? ⟨w.heap.size, 6, none⟩ = some (.slice v1.o.a s.op.length v1.o.c) ∧ w'.cell? ⟨w.heap.size, 7, none⟩ = some (.slice v1.d.a s.dn.length v1.d.c) ∧ w'.cell? ⟨w.heap.size + 1, 1, none⟩ = some (.int .i64 r.step)) wb)
    clear hK K
    try simp only [Act.put, List.setIfInBounds_toArray, List.set_cons_zero, List.set_cons_succ]
    have HSB : Hid ((fun w' => w'.cell? ⟨w.heap.size, 6, none⟩ = some (.slice v1.o.a s.op.length v1.o.c) ∧ w'.cell? ⟨w.heap.size, 7, none⟩ = some (.slice v1.d.a s.dn.length v1.d.c) ∧ w'.cell? ⟨w.heap.size + 1, 1, none⟩ = some (.int .i64 r.step)) wb) := Lib.hid (And.intro (keep_cell hbb' HSh.out.1) (And.intro (keep_cell hbb' HSh.out.2.1) (keep_cell hbb' HSh.out.2.2)))
    have HXb : Hid (RdI wb ⟨some ⟨bx, 0, none⟩, 1⟩ [r.step]) := Lib.hid (by rw [hwb, hbx]; exact rd_box (heap_alloc_new w7 _))
    have HBB := Lib.hid hbb
    rw [← hwb]
    try rw [← hbx]
    clear hwb hbx hbb hbb'
    refine wpAnyK_one (i := 4) (by kernel_rfl) rfl rfl (fun K hK => ?_)
    go_simp
    refine (drop_any v1.o s.op r.step wb ((RdI.below HOO.out.1.o.rd HBB.out)) HL.out.1.o).mono ?_
    rintro e wa ⟨s8, rfl, ho8, hb8⟩
    have HX8 := Lib.hid (HXb.out.below hb8)
    have HSA := Lib.hid ((And.intro (keep_cell hb8 HSB.out.1) (And.intro (keep_cell hb8 HSB.out.2.1) (keep_cell hb8 HSB.out.2.2))) : (fun w' => w'.cell? ⟨w.heap.size, 6, none⟩ = some (.slice v1.o.a s.op.length v1.o.c) ∧ w'.cell? ⟨w.heap.size, 7, none⟩ = some (.slice v1.d.a s.dn.length v1.d.c) ∧ w'.cell? ⟨w.heap.size + 1, 1, none⟩ = some (.int .i64 r.step)) wa)
    have HO8 : Hid (OwI wa w7.heap.size s8 (dropL s.op r.step)) := Lib.hid (ho8.lower HBB.out.size)
    have HB8 : Hid (Below w7.heap.size w7 wa) := Lib.hid (HBB.out.trans (hb8.mono HBB.out.size))
    clear ho8 hb8 HSB HXb HBB
    go_wp2_with fail
    refine hK.out _ _ (fun _ => HSA.out) ?_
    clear hK K
    try simp only [Act.put, List.setIfInBounds_toArray, List.set_cons_zero, List.set_cons_succ]
    refine wpAnyK_take (i := 11) (g := 15) (v := .pointer (some ⟨w.heap.size, 6, none⟩)) rfl (by kernel_rfl) (fun _ _ _ h => h) (Or.inl ⟨by rfl, fun w' hw' => ?_⟩) HSA.out ?_
    · obtain ⟨k0, k1, k2⟩ := hw'
      go_simp
    try simp only [Act.put, List.setIfInBounds_toArray, List.set_cons_zero, List.set_cons_succ]
    refine wpAnyK_one (i := 10) (by kernel_rfl) rfl rfl (fun K hK => ?_)
    refine appendR_wp (W := wa) (w0 := w7) (B := w.heap.size + 3) (s := .tmp 57) (x := .tmp 60) (sl := v1.d) (sx := ⟨some ⟨bx, 0, none⟩, 1⟩) (xs := s.dn) (ys := [r.step]) rfl rfl rfl rfl (HOO.out.1.d.below HB8.out) HX8.out (HB8.out.mono HOO.out.2.2.2.2.2) (Nat.le_trans HOO.out.2.2.2.2.2 HB8.out.size) (by have := HL.out.1.d; simp; omega) ?_
    intro s9 w9 ho9 hb9 hg9 hat9
    have hx9 := grown_blk (HOO.out.1.d.below HB8.out) hg9 (by omega) ((HB8.out.block _ (by have := HOO.out.2.2.2.2.2; omega)).trans HOO.out.2.1)
    have hy9 := grown_blk (HOO.out.1.d.below HB8.out) hg9 (by omega) ((HB8.out.block _ (by have := HOO.out.2.2.2.2.2; omega)).trans HOO.out.2.2.1)
    have hz9 := grown_blk (HOO.out.1.d.below HB8.out) hg9 (by omega) ((HB8.out.block _ (by have := HOO.out.2.2.2.2.2; omega)).trans HOO.out.2.2.2.1)
    have HS9 : Hid ((fun w' => w'.cell? ⟨w.heap.size, 6, none⟩ = some (.slice v1.o.a s.op.length v1.o.c) ∧ w'.cell? ⟨w.heap.size, 7, none⟩ = some (.slice v1.d.a s.dn.length v1.d.c) ∧ w'.cell? ⟨w.heap.size + 1, 1, none⟩ = some (.int .i64 r.step)) w9) := Lib.hid (And.intro (by rw [cell_at hx9]; rfl) (And.intro (by rw [cell_at hx9]; rfl) (by rw [cell_at hy9]; rfl)))
    have h8d : ∀ k, s8.blk = some k → v1.d.blk ≠ some k := fun k h1 h2 => by
      have := (HO8.out.blk k h1).1
      have := (HOO.out.1.d.blk k h2).2
      omega
    have O9 : OwSt w9 (w.heap.size + 3) ⟨v1.p, s8, s9⟩ ({ s with op := dropL s.op r.step, dn := s.dn ++ [r.step] }) := ⟨doneI_frame (v := v1) (s := s) (HOO.out.1.below HB8.out) HAp.out hg9, (HO8.out.grown hg9 h8d).lower HOO.out.2.2.2.2.2, ho9⟩
    have G0 : w9.cell? ⟨w.heap.size, 0, none⟩ = some (.int .i64 s.num) := by rw [cell_at hx9]; rfl
    have F0 : w9.frozen? ⟨w.heap.size, 0, none⟩ = false := frozen_at hx9 _
    have G1 : w9.cell? ⟨w.heap.size, 1, none⟩ = some (.int .i64 s.ph) := by rw [cell_at hx9]; rfl
    have F1 : w9.frozen? ⟨w.heap.size, 1, none⟩ = false := frozen_at hx9 _
    have G2 : w9.cell? ⟨w.heap.size, 2, none⟩ = some (v1.p.f.v s.plan.fr.length) := by rw [cell_at hx9]; rfl
    have F2 : w9.frozen? ⟨w.heap.size, 2, none⟩ = false := frozen_at hx9 _
    have G3 : w9.cell? ⟨w.heap.size, 3, none⟩ = some (v1.p.t.v s.plan.tt.length) := by rw [cell_at hx9]; rfl
    have F3 : w9.frozen? ⟨w.heap.size, 3, none⟩ = false := frozen_at hx9 _
    have G4 : w9.cell? ⟨w.heap.size, 4, none⟩ = some (v1.p.s.v s.plan.steps.length) := by rw [cell_at hx9]; rfl
    have F4 : w9.frozen? ⟨w.heap.size, 4, none⟩ = false := frozen_at hx9 _
    have G5 : w9.cell? ⟨w.heap.size, 5, none⟩ = some (v1.p.b.v s.plan.before.length) := by rw [cell_at hx9]; rfl
    have F5 : w9.frozen? ⟨w.heap.size, 5, none⟩ = false := frozen_at hx9 _
    have G6 : w9.cell? ⟨w.heap.size, 6, none⟩ = some (v1.o.v s.op.length) := by rw [cell_at hx9]; rfl
    have F6 : w9.frozen? ⟨w.heap.size, 6, none⟩ = false := frozen_at hx9 _
    have G7 : w9.cell? ⟨w.heap.size, 7, none⟩ = some (v1.d.v s.dn.length) := by rw [cell_at hx9]; rfl
    have F7 : w9.frozen? ⟨w.heap.size, 7, none⟩ = false := frozen_at hx9 _
    have k8 : Kp (w.heap.size + 1) w9 ((w9.setCell ⟨w.heap.size, 6, none⟩ (s8.v (dropL s.op r.step).length)).setCell ⟨w.heap.size, 7, none⟩ (s9.v (s.dn ++ [r.step]).length)) := ((Kp.refl _ _).set (p := ⟨_, 6, none⟩) (Nat.lt_succ_self _) _).set (p := ⟨_, 7, none⟩) (Nat.lt_succ_self _) _
    have hz10 := (k8 (w.heap.size + 2) (by omega)).trans hz9
    have hx10 := heap_set_same (heap_set_same hx9 6 (s8.v (dropL s.op r.step).length)) 7 (s9.v (s.dn ++ [r.step]).length)
    simp only [List.setIfInBounds_toArray, List.set_cons_zero, List.set_cons_succ] at hx10
    have hb9w : Below w.heap.size w w9 := HOO.out.2.2.2.2.1.trans (hb9.mono (Nat.le_add_right _ _))
    have hb10 := st_below (p := ⟨w.heap.size, 7, none⟩) (v := s9.v (s.dn ++ [r.step]).length) (st_below (p := ⟨w.heap.size, 6, none⟩) (v := s8.v (dropL s.op r.step).length) (Lib.hid hb9w) (Nat.le_refl _)) (Nat.le_refl _)
    have hfin := (heap_set_same (heap_set_same (heap_set_same (heap_set_same (heap_set_same (heap_set_same (heap_set_same (heap_set_same hz10 0 (.int .i64 s.num)) 1 (.int .i64 s.ph)) 2 (v1.p.f.v s.plan.fr.length)) 3 (v1.p.t.v s.plan.tt.length)) 4 (v1.p.s.v s.plan.steps.length)) 5 (v1.p.b.v s.plan.before.length)) 6 (s8.v (dropL s.op r.step).length)) 7 (s9.v (s.dn ++ [r.step]).length))
    simp only [List.setIfInBounds_toArray, List.set_cons_zero, List.set_cons_succ] at hfin
    have k9 : Kp (w.heap.size + 3) ((w9.setCell ⟨w.heap.size, 6, none⟩ (s8.v (dropL s.op r.step).length)).setCell ⟨w.heap.size, 7, none⟩ (s9.v (s.dn ++ [r.step]).length)) ((((((((((w9.setCell ⟨w.heap.size, 6, none⟩ (s8.v (dropL s.op r.step).length)).setCell ⟨w.heap.size, 7, none⟩ (s9.v (s.dn ++ [r.step]).length)).setCell ⟨w.heap.size + 2, 0, none⟩ (.int .i64 s.num)).setCell ⟨w.heap.size + 2, 1, none⟩ (.int .i64 s.ph)).setCell ⟨w.heap.size + 2, 2, none⟩ (v1.p.f.v s.plan.fr.length)).setCell ⟨w.heap.size + 2, 3, none⟩ (v1.p.t.v s.plan.tt.length)).setCell ⟨w.heap.size + 2, 4, none⟩ (v1.p.s.v s.plan.steps.length)).setCell ⟨w.heap.size + 2, 5, none⟩ (v1.p.b.v s.plan.before.length)).setCell ⟨w.heap.size + 2, 6, none⟩ (s8.v (dropL s.op r.step).length)).setCell ⟨w.heap.size + 2, 7, none⟩ (s9.v (s.dn ++ [r.step]).length)) := (((((((((Kp.refl (w.heap.size + 3) ((w9.setCell ⟨w.heap.size, 6, none⟩ (s8.v (dropL s.op r.step).length)).setCell ⟨w.heap.size, 7, none⟩ (s9.v (s.dn ++ [r.step]).length))).set (p := ⟨_, 0, none⟩) (Nat.lt_succ_self _) _).set (p := ⟨_, 1, none⟩) (Nat.lt_succ_self _) _).set (p := ⟨_, 2, none⟩) (Nat.lt_succ_self _) _).set (p := ⟨_, 3, none⟩) (Nat.lt_succ_self _) _).set (p := ⟨_, 4, none⟩) (Nat.lt_succ_self _) _).set (p := ⟨_, 5, none⟩) (Nat.lt_succ_self _) _).set (p := ⟨_, 6, none⟩) (Nat.lt_succ_self _) _).set (p := ⟨_, 7, none⟩) (Nat.lt_succ_self _) _)
    have hb9 : Hid (Below w.heap.size w ((((((((((w9.setCell ⟨w.heap.size, 6, none⟩ (s8.v (dropL s.op r.step).length)).setCell ⟨w.heap.size, 7, none⟩ (s9.v (s.dn ++ [r.step]).length)).setCell ⟨w.heap.size + 2, 0, none⟩ (.int .i64 s.num)).setCell ⟨w.heap.size + 2, 1, none⟩ (.int .i64 s.ph)).setCell ⟨w.heap.size + 2, 2, none⟩ (v1.p.f.v s.plan.fr.length)).setCell ⟨w.heap.size + 2, 3, none⟩ (v1.p.t.v s.plan.tt.length)).setCell ⟨w.heap.size + 2, 4, none⟩ (v1.p.s.v s.plan.steps.length)).setCell ⟨w.heap.size + 2, 5, none⟩ (v1.p.b.v s.plan.before.length)).setCell ⟨w.heap.size + 2, 6, none⟩ (s8.v (dropL s.op r.step).length)).setCell ⟨w.heap.size + 2, 7, none⟩ (s9.v (s.dn ++ [r.step]).length))) := st_below (st_below (st_below (st_below (st_below (st_below (st_below (st_below (hb10) (Nat.le_add_right _ _)) (Nat.le_add_right _ _)) (Nat.le_add_right _ _)) (Nat.le_add_right _ _)) (Nat.le_add_right _ _)) (Nat.le_add_right _ _)) (Nat.le_add_right _ _)) (Nat.le_add_right _ _)
    have HE := Lib.hid (And.intro hfin (And.intro (OwSt.lower (B' := w.heap.size) (OwSt.step (OwSt.step O9 k8 (by omega)) k9 (Nat.le_refl _)) (Nat.le_add_right _ _)) hb9.out))
    clear hfin k9 hb9
    obtain ⟨wt, hwt⟩ : ∃ wt, wt = ((w9.setCell ⟨w.heap.size, 6, none⟩ (s8.v (dropL s.op r.step).length)).setCell ⟨w.heap.size, 7, none⟩ (s9.v (s.dn ++ [r.step]).length)) := ⟨_, rfl⟩
    rw [← hwt] at hx10 hz10 HE
    have J0 : wt.cell? ⟨w.heap.size, 0, none⟩ = some (.int .i64 s.num) := by rw [cell_at hx10]; rfl
    have J1 : wt.cell? ⟨w.heap.size, 1, none⟩ = some (.int .i64 s.ph) := by rw [cell_at hx10]; rfl
    have J2 : wt.cell? ⟨w.heap.size, 2, none⟩ = some (v1.p.f.v s.plan.fr.length) := by rw [cell_at hx10]; rfl
    have J3 : wt.cell? ⟨w.heap.size, 3, none⟩ = some (v1.p.t.v s.plan.tt.length) := by rw [cell_at hx10]; rfl
    have J4 : wt.cell? ⟨w.heap.size, 4, none⟩ = some (v1.p.s.v s.plan.steps.length) := by rw [cell_at hx10]; rfl
    have J5 : wt.cell? ⟨w.heap.size, 5, none⟩ = some (v1.p.b.v s.plan.before.length) := by rw [cell_at hx10]; rfl
    have J6 : wt.cell? ⟨w.heap.size, 6, none⟩ = some (s8.v (dropL s.op r.step).length) := by rw [cell_at hx10]; rfl
    have J7 : wt.cell? ⟨w.heap.size, 7, none⟩ = some (s9.v (s.dn ++ [r.step]).length) := by rw [cell_at hx10]; rfl
    have R'0 : wt.cell? ⟨w.heap.size + 2, 0, none⟩ = some (.int .i64 0) := by rw [cell_at hz10]; rfl
    have Q'0 : wt.frozen? ⟨w.heap.size + 2, 0, none⟩ = false := frozen_at hz10 _
    have R'1 : wt.cell? ⟨w.heap.size + 2, 1, none⟩ = some (.int .i64 0) := by rw [cell_at hz10]; rfl
    have Q'1 : wt.frozen? ⟨w.heap.size + 2, 1, none⟩ = false := frozen_at hz10 _
    have R'2 : wt.cell? ⟨w.heap.size + 2, 2, none⟩ = some (.slice none 0 0) := by rw [cell_at hz10]; rfl
    have Q'2 : wt.frozen? ⟨w.heap.size + 2, 2, none⟩ = false := frozen_at hz10 _
    have R'3 : wt.cell? ⟨w.heap.size + 2, 3, none⟩ = some (.slice none 0 0) := by rw [cell_at hz10]; rfl
    have Q'3 : wt.frozen? ⟨w.heap.size + 2, 3, none⟩ = false := frozen_at hz10 _
    have R'4 : wt.cell? ⟨w.heap.size + 2, 4, none⟩ = some (.slice none 0 0) := by rw [cell_at hz10]; rfl
    have Q'4 : wt.frozen? ⟨w.heap.size + 2, 4, none⟩ = false := frozen_at hz10 _
    have R'5 : wt.cell? ⟨w.heap.size + 2, 5, none⟩ = some (.slice none 0 0) := by rw [cell_at hz10]; rfl
    have Q'5 : wt.frozen? ⟨w.heap.size + 2, 5, none⟩ = false := frozen_at hz10 _
    have R'6 : wt.cell? ⟨w.heap.size + 2, 6, none⟩ = some (.slice none 0 0) := by rw [cell_at hz10]; rfl
    have Q'6 : wt.frozen? ⟨w.heap.size + 2, 6, none⟩ = false := frozen_at hz10 _
    have R'7 : wt.cell? ⟨w.heap.size + 2, 7, none⟩ = some (.slice none 0 0) := by rw [cell_at hz10]; rfl
    have Q'7 : wt.frozen? ⟨w.heap.size + 2, 7, none⟩ = false := frozen_at hz10 _
    have HW10 := Lib.hid hwt
    clear hwt hx10 hz10 hb10 k8 hx9 hz9 hy9 O9 ho9 hb9 hg9 hat9 hb9w h8d
    refine hK.out _ _ (fun _ => HS9.out) ?_
    clear hK K
    try simp only [Act.put, List.setIfInBounds_toArray, List.set_cons_zero, List.set_cons_succ]
    refine wpAnyK_one (i := 12) (by kernel_rfl) rfl rfl (fun K hK => ?_)
    go_simp
    refine hK.out _ _ (fun h => nomatch (show true = false from h)) ?_
    clear hK K
    try simp only [Act.put, List.setIfInBounds_toArray, List.set_cons_zero, List.set_cons_succ]
    refine wpAnyK_one (i := 13) (by kernel_rfl) rfl rfl (fun K hK => ?_)
    go_simp
    refine hK.out _ _ (fun h => nomatch (show true = false from h)) ?_
    clear hK K
    try simp only [Act.put, List.setIfInBounds_toArray, List.set_cons_zero, List.set_cons_succ]
    refine wpAnyK_one (i := 14) (by kernel_rfl) rfl rfl (fun K hK => ?_)
    go_simp
    refine hK.out _ _ (fun h => nomatch (show true = false from h)) ?_
    clear hK K
    try simp only [Act.put, List.setIfInBounds_toArray, List.set_cons_zero, List.set_cons_succ]
    refine wpAnyK_done (by kernel_rfl) ?_
    have hwt := HW10.out
    have hlen : (s.dn ++ [r.step]).length = s.dn.length + 1 := by simp
    unfold SL.v at hwt
    first | rw [← hwt] | (rw [← hlen, ← hwt]) | (rw [hlen] at hwt; rw [← hwt])
    clear hwt hlen G0 F0 G1 F1 G2 F2 G3 F3 G4 F4 G5 F5 G6 F6 G7 F7
    unfold SL.v at J2 J3 J4 J5 J6 J7
    go_wp2
    try rw [show s.dn.length + 1 = (s.dn ++ [r.step]).length from by simp]
    refine bodyPost_ret (v := .tuple #[stV ⟨v1.p, s8, s9⟩ ({ s with op := dropL s.op r.step, dn := s.dn ++ [r.step] }), .int .i64 0]) (YtedalanhjhiehaaDoorW.PrintWords.results_list (rs := [.cell 4 34, .tmp 5]) rfl (by simp) (.cell (w.heap.size + 2) 34 _ _ _ rfl HE.out.1 Tryd.underlying34 rfl (by kernel_rfl) (.tmp .nil))) rfl ?_
    rw [HX.out, HN.out]
    exact ⟨⟨v1.p, s8, s9⟩, rfl, HE.out.2.1, HE.out.2.2⟩
end Go.Proofs.YtedalanhjhiehaaDoor
