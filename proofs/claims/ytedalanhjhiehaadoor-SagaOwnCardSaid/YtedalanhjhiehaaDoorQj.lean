import Derived.Test.YtedalanhjhiehaaDoorQi
import Derived.Test.YtedalanhjhiehaaDoorRs
set_option linter.unusedSimpArgs false
namespace Go.Proofs.YtedalanhjhiehaaDoor
open Go.RowKit
open YtedalanhjhiehaaDoorW.PrintWords (nums ReadsInt rd own_slice own_typed Kd)
attribute [local go_sem ↓] Go.wp_at_zero Go.wp_at_succ

/-- the block of a slice's row -/
def SL.blk (s : SL) : Option Nat := s.a.map (·.block)
theorem own_blk (s : SL) (n : Nat) : (s.v n).ownBlock = s.blk := by
  obtain ⟨a, c⟩ := s
  cases a <;> rfl
theorem OwI.blk {w : World} {B : Nat} {s : SL} {xs : List Int} (h : OwI w B s xs) (k : Nat) (hk : s.blk = some k) : B ≤ k ∧ k < w.heap.size :=
  ⟨Kd.R_base h.r k (by rw [own_blk]; exact hk), Kd.R_lt h.r k (by rw [own_blk]; exact hk)⟩
/-- Open's row and Done's are none of the others -/
structure ApartS (v : SV) : Prop where
  od : ∀ k, v.o.blk = some k → v.d.blk ≠ some k
  ofr : ∀ k, v.o.blk = some k → v.p.f.blk ≠ some k
  ot : ∀ k, v.o.blk = some k → v.p.t.blk ≠ some k
  df : ∀ k, v.d.blk = some k → v.p.f.blk ≠ some k
  dt : ∀ k, v.d.blk = some k → v.p.t.blk ≠ some k
def CpS (w : World) (s : StateP) (e : Ending) (w' : World) : Prop := ∃ v' : SV, e = .returned (stV v' s) ∧ OwSt w' w.heap.size v' s ∧ Below w.heap.size w w' ∧ ApartS v'
@[reducible] def stCells (v : SV) (s : StateP) : Array Value := #[.int .i64 s.num, .int .i64 s.ph, v.p.f.v s.plan.fr.length, v.p.t.v s.plan.tt.length, v.p.s.v s.plan.steps.length, v.p.b.v s.plan.before.length, v.o.v s.op.length, v.d.v s.dn.length]
@[reducible] def stZero : Array Value := #[.int .i64 0, .int .i64 0, .slice none 0 0, .slice none 0 0, .slice none 0 0, .slice none 0 0, .slice none 0 0, .slice none 0 0]

/-- nothing from g on has turned -/
def Kp (g : Nat) (w w' : World) : Prop := ∀ k, g ≤ k → w'.heap[k]? = w.heap[k]?
theorem Kp.refl (g : Nat) (w : World) : Kp g w w := fun _ _ => rfl
theorem Kp.set {g : Nat} {w w' : World} (h : Kp g w w') {p : Addr} (hp : p.block < g) (u : Value) : Kp g w (w'.setCell p u) := fun k hk => (Below.heap_setCell w' p u k (by omega)).trans (h k hk)
theorem OwI.step {w w' : World} {B g : Nat} {s : SL} {xs : List Int} (h : OwI w B s xs) (hk : Kp g w w') (hB : g ≤ B) : OwI w' B s xs :=
  ⟨Kd.R_mono (Kd.R_step (Kd.R_bound h.r) (fun k hk' _ => hk k (by have := hk'.2.1; omega))) (fun _ _ => trivial)⟩
theorem OwS.step {e : Nat} {w w' : World} {B g : Nat} {s : SL} {xs : List (Int × Int)} (h : OwS e w B s xs) (hk : Kp g w w') (hB : g ≤ B) : OwS e w' B s xs :=
  ⟨Kd.R_mono (Kd.R_step (Kd.R_bound h.r) (fun k hk' _ => hk k (by have := hk'.2.1; omega))) (fun _ _ => trivial)⟩
theorem OwPlan.step {w w' : World} {B g : Nat} {v : PV} {p : PlanP} (h : OwPlan w B v p) (hk : Kp g w w') (hB : g ≤ B) : OwPlan w' B v p := ⟨h.f.step hk hB, h.t.step hk hB, h.s.step hk hB, h.b.step hk hB⟩
theorem OwSt.step {w w' : World} {B g : Nat} {v : SV} {s : StateP} (h : OwSt w B v s) (hk : Kp g w w') (hB : g ≤ B) : OwSt w' B v s := ⟨h.p.step hk hB, h.o.step hk hB, h.d.step hk hB⟩

set_option maxHeartbeats 8000000 in
set_option maxRecDepth 100000 in
theorem own_any (v : SV) (s : StateP) (w : World) (h : RdSt w v s) (hl : LensS s) : Calls Tryd.prog 20 #[stV v s] w (CpS w s) := by
  obtain ⟨w3, hw3⟩ : ∃ w3, w3 = (w.alloc (.cells (stCells v s) 34)).alloc (.cells stZero 34) := ⟨_, rfl⟩
  have hb3 : Below w.heap.size w w3 := by rw [hw3]; exact below_of_alloc2 _ _ _
  have hx := alloc2_fst w (.cells (stCells v s) 34) (.cells stZero 34)
  have hy := alloc2_snd w (.cells (stCells v s) 34) (.cells stZero 34)
  rw [← hw3] at hx hy
  have c0 : w3.cell? ⟨w.heap.size, 0, none⟩ = some (.int .i64 s.num) := by rw [cell_at hx]; rfl
  have c1 : w3.cell? ⟨w.heap.size, 1, none⟩ = some (.int .i64 s.ph) := by rw [cell_at hx]; rfl
  have c2 : w3.cell? ⟨w.heap.size, 2, none⟩ = some (v.p.f.v s.plan.fr.length) := by rw [cell_at hx]; rfl
  have c3 : w3.cell? ⟨w.heap.size, 3, none⟩ = some (v.p.t.v s.plan.tt.length) := by rw [cell_at hx]; rfl
  have c4 : w3.cell? ⟨w.heap.size, 4, none⟩ = some (v.p.s.v s.plan.steps.length) := by rw [cell_at hx]; rfl
  have c5 : w3.cell? ⟨w.heap.size, 5, none⟩ = some (v.p.b.v s.plan.before.length) := by rw [cell_at hx]; rfl
  have c6 : w3.cell? ⟨w.heap.size, 6, none⟩ = some (v.o.v s.op.length) := by rw [cell_at hx]; rfl
  have c7 : w3.cell? ⟨w.heap.size, 7, none⟩ = some (v.d.v s.dn.length) := by rw [cell_at hx]; rfl
  have e2 : w3.frozen? ⟨w.heap.size, 2, none⟩ = false := frozen_at hx _
  have e3 : w3.frozen? ⟨w.heap.size, 3, none⟩ = false := frozen_at hx _
  have e4 : w3.frozen? ⟨w.heap.size, 4, none⟩ = false := frozen_at hx _
  have e5 : w3.frozen? ⟨w.heap.size, 5, none⟩ = false := frozen_at hx _
  have e6 : w3.frozen? ⟨w.heap.size, 6, none⟩ = false := frozen_at hx _
  have e7 : w3.frozen? ⟨w.heap.size, 7, none⟩ = false := frozen_at hx _
  have hz0 : w.heap.size + 1 < w3.heap.size := lt_of hy
  have H := Lib.hid h
  have HB3 := Lib.hid hb3
  have HL := Lib.hid hl
  have HY := Lib.hid hy
  have HX := Lib.hid hx
  clear h hb3 hx hl hy
  unfold stV stCells stZero SL.v at *
  go_enter Tryd.func20, Tryd.ntmps20
  go_wp2_with fail
  rw [← hw3]
  clear hw3
  have HB0 := drew_below HB3.out
  have hz0d : w.heap.size + 1 < w3.drew.heap.size := hz0
  have hq0 : w.heap.size < w3.heap.size := by omega
  refine wp_region_K (N := 15) (fun w' => w'.cell? ⟨w.heap.size, 2, none⟩ = some (.slice v.p.f.a s.plan.fr.length v.p.f.c) ∧ w'.cell? ⟨w.heap.size, 3, none⟩ = some (.slice v.p.t.a s.plan.tt.length v.p.t.c) ∧ w'.cell? ⟨w.heap.size, 4, none⟩ = some (.slice v.p.s.a s.plan.steps.length v.p.s.c) ∧ w'.cell? ⟨w.heap.size, 5, none⟩ = some (.slice v.p.b.a s.plan.before.length v.p.b.c) ∧ w'.cell? ⟨w.heap.size, 6, none⟩ = some (.slice v.o.a s.op.length v.o.c) ∧ w'.cell? ⟨w.heap.size, 7, none⟩ = some (.slice v.d.a s.dn.length v.d.c)) 10 (by kernel_rfl) rfl ?_
  have HS := (And.intro c2 (And.intro c3 (And.intro c4 (And.intro c5 (And.intro c6 c7)))) : (fun w' => w'.cell? ⟨w.heap.size, 2, none⟩ = some (.slice v.p.f.a s.plan.fr.length v.p.f.c) ∧ w'.cell? ⟨w.heap.size, 3, none⟩ = some (.slice v.p.t.a s.plan.tt.length v.p.t.c) ∧ w'.cell? ⟨w.heap.size, 4, none⟩ = some (.slice v.p.s.a s.plan.steps.length v.p.s.c) ∧ w'.cell? ⟨w.heap.size, 5, none⟩ = some (.slice v.p.b.a s.plan.before.length v.p.b.c) ∧ w'.cell? ⟨w.heap.size, 6, none⟩ = some (.slice v.o.a s.op.length v.o.c) ∧ w'.cell? ⟨w.heap.size, 7, none⟩ = some (.slice v.d.a s.dn.length v.d.c)) w3.drew)
  refine wpAnyK_take (i := 0) (g := 15) (v := .pointer (some ⟨w.heap.size, 2, none⟩)) rfl (by kernel_rfl) (fun _ _ _ h => h) (Or.inl ⟨by rfl, fun w' hw' => ?_⟩) HS ?_
  · obtain ⟨k2, k3, k4, k5, k6, k7⟩ := hw'
    go_simp
  simp only [Act.put, List.setIfInBounds_toArray, List.set_cons_zero, List.set_cons_succ]
  refine wpAnyK_take (i := 1) (g := 15) (v := .agg #[.slice v.p.f.a s.plan.fr.length v.p.f.c, .slice v.p.t.a s.plan.tt.length v.p.t.c, .slice v.p.s.a s.plan.steps.length v.p.s.c, .slice v.p.b.a s.plan.before.length v.p.b.c]) rfl (by kernel_rfl) (fun _ _ _ h => h) (Or.inl ⟨by rfl, fun w' hw' => ?_⟩) HS ?_
  · obtain ⟨k2, k3, k4, k5, k6, k7⟩ := hw'
    go_simp
  simp only [Act.put, List.setIfInBounds_toArray, List.set_cons_zero, List.set_cons_succ]
  refine wpAnyK_take (i := 3) (g := 15) (v := .pointer (some ⟨w.heap.size, 6, none⟩)) rfl (by kernel_rfl) (fun _ _ _ h => h) (Or.inl ⟨by rfl, fun w' hw' => ?_⟩) HS ?_
  · obtain ⟨k2, k3, k4, k5, k6, k7⟩ := hw'
    go_simp
  simp only [Act.put, List.setIfInBounds_toArray, List.set_cons_zero, List.set_cons_succ]
  refine wpAnyK_take (i := 4) (g := 15) (v := .slice v.o.a s.op.length v.o.c) rfl (by kernel_rfl) (fun _ _ _ h => h) (Or.inl ⟨by rfl, fun w' hw' => ?_⟩) HS ?_
  · obtain ⟨k2, k3, k4, k5, k6, k7⟩ := hw'
    go_simp
  simp only [Act.put, List.setIfInBounds_toArray, List.set_cons_zero, List.set_cons_succ]
  refine wpAnyK_take (i := 6) (g := 15) (v := .pointer (some ⟨w.heap.size, 7, none⟩)) rfl (by kernel_rfl) (fun _ _ _ h => h) (Or.inl ⟨by rfl, fun w' hw' => ?_⟩) HS ?_
  · obtain ⟨k2, k3, k4, k5, k6, k7⟩ := hw'
    go_simp
  simp only [Act.put, List.setIfInBounds_toArray, List.set_cons_zero, List.set_cons_succ]
  refine wpAnyK_take (i := 7) (g := 15) (v := .slice v.d.a s.dn.length v.d.c) rfl (by kernel_rfl) (fun _ _ _ h => h) (Or.inl ⟨by rfl, fun w' hw' => ?_⟩) HS ?_
  · obtain ⟨k2, k3, k4, k5, k6, k7⟩ := hw'
    go_simp
  simp only [Act.put, List.setIfInBounds_toArray, List.set_cons_zero, List.set_cons_succ]
  refine wpAnyK_one (i := 2) (by kernel_rfl) rfl rfl (fun K hK => ?_)
  go_simp
  refine (copied_any v.p s.plan _ (H.out.p.below HB0.out) HL.out.p).mono ?_
  rintro e w4 ⟨p1, rfl, ho1, hb1⟩
  have HO1 := Lib.hid ho1
  have HB1 := keep_below' hb1 HB0
  obtain ⟨hc1, hf1⟩ := bcell (W := w3) ⟨hb1.os, hb1.tape, hb1.output, hb1.size, hb1.block⟩
  have hz1 : w.heap.size + 1 < w4.heap.size := Nat.lt_of_lt_of_le hz0d hb1.size
  have hq1 : w.heap.size < w4.heap.size := Nat.lt_of_succ_lt hz1
  have HS1 := (And.intro (keep_cell hb1 HS.1) (And.intro (keep_cell hb1 HS.2.1) (And.intro (keep_cell hb1 HS.2.2.1) (And.intro (keep_cell hb1 HS.2.2.2.1) (And.intro (keep_cell hb1 HS.2.2.2.2.1) (keep_cell hb1 HS.2.2.2.2.2))))))
  have HSh1 := Lib.hid HS1
  clear ho1 HS HS1
  go_wp2_with fail
  refine hK.out _ _ (fun _ => HSh1.out) ?_
  clear hK K
  try simp only [Act.put, List.setIfInBounds_toArray, List.set_cons_zero, List.set_cons_succ]
  refine wpAnyK_take (i := 9) (g := 15) (v := .pointer (some ⟨w.heap.size, 2, none⟩)) rfl (by kernel_rfl) (fun _ _ _ h => h) (Or.inl ⟨by rfl, fun w' hw' => ?_⟩) HSh1.out ?_
  · obtain ⟨k2, k3, k4, k5, k6, k7⟩ := hw'
    go_simp
  simp only [Act.put, List.setIfInBounds_toArray, List.set_cons_zero, List.set_cons_succ]
  refine wpAnyK_one (i := 5) (by kernel_rfl) rfl rfl (fun K hK => ?_)
  go_simp
  refine (cloneI_any v.o s.op _ (H.out.o.below HB1.out) HL.out.o).mono ?_
  rintro e w5 ⟨s2, rfl, ho2, hb2⟩
  have HO2 := Lib.hid ho2
  have HB2 := keep_below' hb2 HB1
  obtain ⟨hc2, hf2⟩ := bcell hb2
  have hz2 : w.heap.size + 1 < w5.heap.size := Nat.lt_of_lt_of_le hz1 hb2.size
  have hq2 : w.heap.size < w5.heap.size := Nat.lt_of_succ_lt hz2
  have HS1 := (And.intro (keep_cell hb2 HSh1.out.1) (And.intro (keep_cell hb2 HSh1.out.2.1) (And.intro (keep_cell hb2 HSh1.out.2.2.1) (And.intro (keep_cell hb2 HSh1.out.2.2.2.1) (And.intro (keep_cell hb2 HSh1.out.2.2.2.2.1) (keep_cell hb2 HSh1.out.2.2.2.2.2))))))
  have HSh2 := Lib.hid HS1
  clear ho2 HS1
  go_wp2_with fail
  refine hK.out _ _ (fun _ => HSh2.out) ?_
  clear hK K
  try simp only [Act.put, List.setIfInBounds_toArray, List.set_cons_zero, List.set_cons_succ]
  refine wpAnyK_one (i := 8) (by kernel_rfl) rfl rfl (fun K hK => ?_)
  go_simp
  refine (cloneI_any v.d s.dn _ (H.out.d.below HB2.out) HL.out.d).mono ?_
  rintro e w6 ⟨s3, rfl, ho3, hb3⟩
  have HO3 := Lib.hid ho3
  have HB3' := keep_below' hb3 HB2
  obtain ⟨hc3, hf3⟩ := bcell hb3
  have hz3 : w.heap.size + 1 < w6.heap.size := Nat.lt_of_lt_of_le hz2 hb3.size
  have hq3 : w.heap.size < w6.heap.size := Nat.lt_of_succ_lt hz3
  have HS1 := (And.intro (keep_cell hb3 HSh2.out.1) (And.intro (keep_cell hb3 HSh2.out.2.1) (And.intro (keep_cell hb3 HSh2.out.2.2.1) (And.intro (keep_cell hb3 HSh2.out.2.2.2.1) (And.intro (keep_cell hb3 HSh2.out.2.2.2.2.1) (keep_cell hb3 HSh2.out.2.2.2.2.2))))))
  have HSh3 := Lib.hid HS1
  clear ho3 HS1
  go_wp2_with fail
  refine hK.out _ _ (fun _ => HSh3.out) ?_
  clear hK K
  try simp only [Act.put, List.setIfInBounds_toArray, List.set_cons_zero, List.set_cons_succ]
  refine wpAnyK_one (i := 10) (by kernel_rfl) rfl rfl (fun K hK => ?_)
  go_simp
  refine hK.out _ _ (fun h => nomatch (show true = false from h)) ?_
  clear hK K
  try simp only [Act.put, List.setIfInBounds_toArray, List.set_cons_zero, List.set_cons_succ]
  refine wpAnyK_one (i := 11) (by kernel_rfl) rfl rfl (fun K hK => ?_)
  go_simp
  refine hK.out _ _ (fun h => nomatch (show true = false from h)) ?_
  clear hK K
  try simp only [Act.put, List.setIfInBounds_toArray, List.set_cons_zero, List.set_cons_succ]
  refine wpAnyK_one (i := 12) (by kernel_rfl) rfl rfl (fun K hK => ?_)
  go_simp
  refine hK.out _ _ (fun h => nomatch (show true = false from h)) ?_
  clear hK K
  try simp only [Act.put, List.setIfInBounds_toArray, List.set_cons_zero, List.set_cons_succ]
  refine wpAnyK_one (i := 13) (by kernel_rfl) rfl rfl (fun K hK => ?_)
  go_simp
  refine hK.out _ _ (fun h => nomatch (show true = false from h)) ?_
  clear hK K
  try simp only [Act.put, List.setIfInBounds_toArray, List.set_cons_zero, List.set_cons_succ]
  refine wpAnyK_one (i := 14) (by kernel_rfl) rfl rfl (fun K hK => ?_)
  go_simp
  refine hK.out _ _ (fun h => nomatch (show true = false from h)) ?_
  clear hK K
  try simp only [Act.put, List.setIfInBounds_toArray, List.set_cons_zero, List.set_cons_succ]
  refine wpAnyK_done (by kernel_rfl) ?_
  have HAp : Hid (ApartS ⟨p1, s2, s3⟩) := Lib.hid ⟨fun k h1 h2 => by have := (HO2.out.blk k h1).2; have := (HO3.out.blk k h2).1; omega, fun k h1 h2 => by have := (HO2.out.blk k h1).1; have := (HO1.out.f.blk k h2).2; omega, fun k h1 h2 => by have := (HO2.out.blk k h1).1; have := (HO1.out.t.blk k h2).2; omega,
    fun k h1 h2 => by have := (HO3.out.blk k h1).1; have := (HO1.out.f.blk k h2).2; have := hb2.size; omega, fun k h1 h2 => by have := (HO3.out.blk k h1).1; have := (HO1.out.t.blk k h2).2; have := hb2.size; omega⟩
  have hx6 := (hb3.block _ hq2).trans ((hb2.block _ hq1).trans ((hb1.block _ (show w.heap.size < w3.drew.heap.size from hq0)).trans (show w3.drew.heap[w.heap.size]? = _ from HX.out)))
  have hy6 := (hb3.block _ hz2).trans ((hb2.block _ hz1).trans ((hb1.block _ hz0d).trans (show w3.drew.heap[w.heap.size + 1]? = _ from HY.out)))
  have hx7 := (heap_set_same (heap_set_same (heap_set_same (heap_set_same (heap_set_same (heap_set_same hx6 2 (p1.f.v s.plan.fr.length)) 3 (p1.t.v s.plan.tt.length)) 4 (p1.s.v s.plan.steps.length)) 5 (p1.b.v s.plan.before.length)) 6 (s2.v s.op.length)) 7 (s3.v s.dn.length))
  obtain ⟨w7, hw7⟩ : ∃ w7, w7 = ((((((w6.setCell ⟨w.heap.size, 2, none⟩ (p1.f.v s.plan.fr.length)).setCell ⟨w.heap.size, 3, none⟩ (p1.t.v s.plan.tt.length)).setCell ⟨w.heap.size, 4, none⟩ (p1.s.v s.plan.steps.length)).setCell ⟨w.heap.size, 5, none⟩ (p1.b.v s.plan.before.length)).setCell ⟨w.heap.size, 6, none⟩ (s2.v s.op.length)).setCell ⟨w.heap.size, 7, none⟩ (s3.v s.dn.length)) := ⟨_, rfl⟩
  have k7 : Kp (w.heap.size + 1) w6 w7 := by
    rw [hw7]
    exact (((((((Kp.refl (w.heap.size + 1) w6).set (p := ⟨_, 2, none⟩) (Nat.lt_succ_self _) _).set (p := ⟨_, 3, none⟩) (Nat.lt_succ_self _) _).set (p := ⟨_, 4, none⟩) (Nat.lt_succ_self _) _).set (p := ⟨_, 5, none⟩) (Nat.lt_succ_self _) _).set (p := ⟨_, 6, none⟩) (Nat.lt_succ_self _) _).set (p := ⟨_, 7, none⟩) (Nat.lt_succ_self _) _)
  have hy7 := (k7 (w.heap.size + 1) (Nat.le_refl _)).trans hy6
  have hb7 : Hid (Below w.heap.size w w7) := by
    rw [hw7]
    exact st_below (st_below (st_below (st_below (st_below (st_below (HB3') (Nat.le_refl _)) (Nat.le_refl _)) (Nat.le_refl _)) (Nat.le_refl _)) (Nat.le_refl _)) (Nat.le_refl _)
  unfold SL.v at hw7
  simp only [List.setIfInBounds_toArray, List.set_cons_zero, List.set_cons_succ] at hx7
  rw [← hw7] at hx7 ⊢
  have OO : OwSt w7 (w.heap.size + 2) ⟨p1, s2, s3⟩ s := ⟨(((HO1.out.below hb2).below hb3).step k7 (Nat.le_of_lt hz0d)).lower hz0d, ((HO2.out.below hb3).step k7 (Nat.le_of_lt hz1)).lower hz1, (HO3.out.step k7 (Nat.le_of_lt hz2)).lower hz2⟩
  have g0 : w7.cell? ⟨w.heap.size, 0, none⟩ = some (.int .i64 s.num) := by rw [cell_at hx7]; rfl
  have g1 : w7.cell? ⟨w.heap.size, 1, none⟩ = some (.int .i64 s.ph) := by rw [cell_at hx7]; rfl
  have g2 : w7.cell? ⟨w.heap.size, 2, none⟩ = some (p1.f.v s.plan.fr.length) := by rw [cell_at hx7]; rfl
  have g3 : w7.cell? ⟨w.heap.size, 3, none⟩ = some (p1.t.v s.plan.tt.length) := by rw [cell_at hx7]; rfl
  have g4 : w7.cell? ⟨w.heap.size, 4, none⟩ = some (p1.s.v s.plan.steps.length) := by rw [cell_at hx7]; rfl
  have g5 : w7.cell? ⟨w.heap.size, 5, none⟩ = some (p1.b.v s.plan.before.length) := by rw [cell_at hx7]; rfl
  have g6 : w7.cell? ⟨w.heap.size, 6, none⟩ = some (s2.v s.op.length) := by rw [cell_at hx7]; rfl
  have g7 : w7.cell? ⟨w.heap.size, 7, none⟩ = some (s3.v s.dn.length) := by rw [cell_at hx7]; rfl
  have r0 : w7.cell? ⟨w.heap.size + 1, 0, none⟩ = some (.int .i64 0) := by rw [cell_at hy7]; rfl
  have r1 : w7.cell? ⟨w.heap.size + 1, 1, none⟩ = some (.int .i64 0) := by rw [cell_at hy7]; rfl
  have r2 : w7.cell? ⟨w.heap.size + 1, 2, none⟩ = some (.slice none 0 0) := by rw [cell_at hy7]; rfl
  have r3 : w7.cell? ⟨w.heap.size + 1, 3, none⟩ = some (.slice none 0 0) := by rw [cell_at hy7]; rfl
  have r4 : w7.cell? ⟨w.heap.size + 1, 4, none⟩ = some (.slice none 0 0) := by rw [cell_at hy7]; rfl
  have r5 : w7.cell? ⟨w.heap.size + 1, 5, none⟩ = some (.slice none 0 0) := by rw [cell_at hy7]; rfl
  have r6 : w7.cell? ⟨w.heap.size + 1, 6, none⟩ = some (.slice none 0 0) := by rw [cell_at hy7]; rfl
  have r7 : w7.cell? ⟨w.heap.size + 1, 7, none⟩ = some (.slice none 0 0) := by rw [cell_at hy7]; rfl
  have q0 : w7.frozen? ⟨w.heap.size + 1, 0, none⟩ = false := frozen_at hy7 _
  have q1 : w7.frozen? ⟨w.heap.size + 1, 1, none⟩ = false := frozen_at hy7 _
  have q2 : w7.frozen? ⟨w.heap.size + 1, 2, none⟩ = false := frozen_at hy7 _
  have q3 : w7.frozen? ⟨w.heap.size + 1, 3, none⟩ = false := frozen_at hy7 _
  have q4 : w7.frozen? ⟨w.heap.size + 1, 4, none⟩ = false := frozen_at hy7 _
  have q5 : w7.frozen? ⟨w.heap.size + 1, 5, none⟩ = false := frozen_at hy7 _
  have q6 : w7.frozen? ⟨w.heap.size + 1, 6, none⟩ = false := frozen_at hy7 _
  have q7 : w7.frozen? ⟨w.heap.size + 1, 7, none⟩ = false := frozen_at hy7 _
  unfold SL.v at g2 g3 g4 g5 g6 g7
  have hfin := (heap_set_same (heap_set_same (heap_set_same (heap_set_same (heap_set_same (heap_set_same (heap_set_same (heap_set_same hy7 0 (.int .i64 s.num)) 1 (.int .i64 s.ph)) 2 (p1.f.v s.plan.fr.length)) 3 (p1.t.v s.plan.tt.length)) 4 (p1.s.v s.plan.steps.length)) 5 (p1.b.v s.plan.before.length)) 6 (s2.v s.op.length)) 7 (s3.v s.dn.length))
  simp only [List.setIfInBounds_toArray, List.set_cons_zero, List.set_cons_succ] at hfin
  have k8 : Kp (w.heap.size + 2) w7 ((((((((w7.setCell ⟨w.heap.size + 1, 0, none⟩ (.int .i64 s.num)).setCell ⟨w.heap.size + 1, 1, none⟩ (.int .i64 s.ph)).setCell ⟨w.heap.size + 1, 2, none⟩ (p1.f.v s.plan.fr.length)).setCell ⟨w.heap.size + 1, 3, none⟩ (p1.t.v s.plan.tt.length)).setCell ⟨w.heap.size + 1, 4, none⟩ (p1.s.v s.plan.steps.length)).setCell ⟨w.heap.size + 1, 5, none⟩ (p1.b.v s.plan.before.length)).setCell ⟨w.heap.size + 1, 6, none⟩ (s2.v s.op.length)).setCell ⟨w.heap.size + 1, 7, none⟩ (s3.v s.dn.length)) := (((((((((Kp.refl (w.heap.size + 2) w7).set (p := ⟨_, 0, none⟩) (Nat.lt_succ_self _) _).set (p := ⟨_, 1, none⟩) (Nat.lt_succ_self _) _).set (p := ⟨_, 2, none⟩) (Nat.lt_succ_self _) _).set (p := ⟨_, 3, none⟩) (Nat.lt_succ_self _) _).set (p := ⟨_, 4, none⟩) (Nat.lt_succ_self _) _).set (p := ⟨_, 5, none⟩) (Nat.lt_succ_self _) _).set (p := ⟨_, 6, none⟩) (Nat.lt_succ_self _) _).set (p := ⟨_, 7, none⟩) (Nat.lt_succ_self _) _)
  have hb8 : Hid (Below w.heap.size w ((((((((w7.setCell ⟨w.heap.size + 1, 0, none⟩ (.int .i64 s.num)).setCell ⟨w.heap.size + 1, 1, none⟩ (.int .i64 s.ph)).setCell ⟨w.heap.size + 1, 2, none⟩ (p1.f.v s.plan.fr.length)).setCell ⟨w.heap.size + 1, 3, none⟩ (p1.t.v s.plan.tt.length)).setCell ⟨w.heap.size + 1, 4, none⟩ (p1.s.v s.plan.steps.length)).setCell ⟨w.heap.size + 1, 5, none⟩ (p1.b.v s.plan.before.length)).setCell ⟨w.heap.size + 1, 6, none⟩ (s2.v s.op.length)).setCell ⟨w.heap.size + 1, 7, none⟩ (s3.v s.dn.length))) := st_below (st_below (st_below (st_below (st_below (st_below (st_below (st_below (hb7) (Nat.le_succ _)) (Nat.le_succ _)) (Nat.le_succ _)) (Nat.le_succ _)) (Nat.le_succ _)) (Nat.le_succ _)) (Nat.le_succ _)) (Nat.le_succ _)
  have HE := Lib.hid (And.intro hfin (And.intro ((OO.step k8 (Nat.le_refl _)).lower (Nat.le_add_right _ _)) hb8.out))
  clear hfin k8 hb8 hx7 hy7 hy6 hx6 k7 hb7 hw7 OO c0 c1 c2 c3 c4 c5 c6 c7 e2 e3 e4 e5 e6 e7 hz0 hz0d hq0 hz1 hq1 hz2 hq2 hz3 hq3 hb1 hb2 hb3 HSh1 HSh2 HSh3
  go_wp2
  refine bodyPost_ret (v := stV ⟨p1, s2, s3⟩ s) (YtedalanhjhiehaaDoorW.PrintWords.results_single rfl (.cell (w.heap.size + 1) 34 _ _ _ rfl HE.out.1 Tryd.underlying34 rfl (by kernel_rfl) .nil)) rfl ?_
  exact ⟨⟨p1, s2, s3⟩, rfl, HE.out.2.1, HE.out.2.2, HAp.out⟩
end Go.Proofs.YtedalanhjhiehaaDoor
