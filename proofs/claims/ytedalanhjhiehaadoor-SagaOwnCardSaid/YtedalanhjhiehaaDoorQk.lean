import Derived.Test.YtedalanhjhiehaaDoorQj
set_option linter.unusedSimpArgs false
namespace Go.Proofs.YtedalanhjhiehaaDoor
open Go.RowKit
open YtedalanhjhiehaaDoorW.PrintWords (nums ReadsInt rd own_slice own_typed Kd)

@[reducible] def planCells (v : PV) (p : PlanP) : Array Value := #[v.f.v p.fr.length, v.t.v p.tt.length, v.s.v p.steps.length, v.b.v p.before.length]
@[reducible] def graphV (n : Int) (s : SL) (xs : List (Int × Int)) : Value := .agg #[.int .i64 n, s.v xs.length]
def GrP (w : World) (p : PlanP) (e : Ending) (w' : World) : Prop := ∃ s' : SL, e = .returned (graphV p.steps.length s' p.before) ∧ OwS 54 w' w.heap.size s' p.before ∧ Below w.heap.size w w'

set_option maxHeartbeats 4000000 in
set_option maxRecDepth 100000 in
theorem graph_any (v : PV) (p : PlanP) (w : World) (h : RdPlan w v p) (hl : Lens p) : Calls Tryd.prog 37 #[planV v p] w (GrP w p) := by
  obtain ⟨w3, hw3⟩ : ∃ w3, w3 = (w.alloc (.cells (planCells v p) 26)).alloc (.cells #[.int .i64 0, .slice none 0 0] 76) := ⟨_, rfl⟩
  have hb3 : Below w.heap.size w w3 := by rw [hw3]; exact below_of_alloc2 _ _ _
  have hx := alloc2_fst w (.cells (planCells v p) 26) (.cells #[.int .i64 0, .slice none 0 0] 76)
  have hy := alloc2_snd w (.cells (planCells v p) 26) (.cells #[.int .i64 0, .slice none 0 0] 76)
  rw [← hw3] at hx hy
  have c2 : w3.cell? ⟨w.heap.size, 2, none⟩ = some (v.s.v p.steps.length) := by rw [cell_at hx]; rfl
  have c3 : w3.cell? ⟨w.heap.size, 3, none⟩ = some (v.b.v p.before.length) := by rw [cell_at hx]; rfl
  have hz0 : w.heap.size + 1 < w3.heap.size := lt_of hy
  have H := Lib.hid h
  have HB3 := Lib.hid hb3
  have HL := Lib.hid hl
  have HY := Lib.hid hy
  clear h hb3 hx hl hy
  unfold planV planCells SL.v at *
  go_enter Tryd.func37, Tryd.ntmps37
  go_wp2_with fail
  rw [← hw3]
  clear hw3
  have HB0 := drew_below HB3.out
  have hz0d : w.heap.size + 1 < w3.drew.heap.size := hz0
  refine wp_region_K (N := 8) (fun w' => w'.cell? ⟨w.heap.size, 2, none⟩ = some (.slice v.s.a p.steps.length v.s.c) ∧ w'.cell? ⟨w.heap.size, 3, none⟩ = some (.slice v.b.a p.before.length v.b.c)) 7 (by kernel_rfl) rfl ?_
  have HS := ((And.intro c2 c3) : (fun w' => w'.cell? ⟨w.heap.size, 2, none⟩ = some (.slice v.s.a p.steps.length v.s.c) ∧ w'.cell? ⟨w.heap.size, 3, none⟩ = some (.slice v.b.a p.before.length v.b.c)) w3.drew)
  refine wpAnyK_take (i := 0) (g := 8) (v := .pointer (some ⟨w.heap.size, 2, none⟩)) rfl (by kernel_rfl) (fun _ _ _ h => h) (Or.inl ⟨by rfl, fun w' hw' => ?_⟩) HS ?_
  · obtain ⟨k2, k3⟩ := hw'
    go_simp
  try simp only [Act.put, List.setIfInBounds_toArray, List.set_cons_zero, List.set_cons_succ]
  refine wpAnyK_take (i := 1) (g := 8) (v := .slice v.s.a p.steps.length v.s.c) rfl (by kernel_rfl) (fun _ _ _ h => h) (Or.inl ⟨by rfl, fun w' hw' => ?_⟩) HS ?_
  · obtain ⟨k2, k3⟩ := hw'
    go_simp
  try simp only [Act.put, List.setIfInBounds_toArray, List.set_cons_zero, List.set_cons_succ]
  refine wpAnyK_take (i := 2) (g := 8) (v := .int .i64 p.steps.length) rfl (by kernel_rfl) (fun _ _ _ h => h) (Or.inl ⟨by rfl, fun w' hw' => ?_⟩) HS ?_
  · obtain ⟨k2, k3⟩ := hw'
    go_simp
  try simp only [Act.put, List.setIfInBounds_toArray, List.set_cons_zero, List.set_cons_succ]
  refine wpAnyK_take (i := 3) (g := 8) (v := .pointer (some ⟨w.heap.size, 3, none⟩)) rfl (by kernel_rfl) (fun _ _ _ h => h) (Or.inl ⟨by rfl, fun w' hw' => ?_⟩) HS ?_
  · obtain ⟨k2, k3⟩ := hw'
    go_simp
  try simp only [Act.put, List.setIfInBounds_toArray, List.set_cons_zero, List.set_cons_succ]
  refine wpAnyK_take (i := 4) (g := 8) (v := .slice v.b.a p.before.length v.b.c) rfl (by kernel_rfl) (fun _ _ _ h => h) (Or.inl ⟨by rfl, fun w' hw' => ?_⟩) HS ?_
  · obtain ⟨k2, k3⟩ := hw'
    go_simp
  try simp only [Act.put, List.setIfInBounds_toArray, List.set_cons_zero, List.set_cons_succ]
  refine wpAnyK_one (i := 5) (by kernel_rfl) rfl rfl (fun K hK => ?_)
  go_simp
  refine (cloneE_any v.b p.before _ (H.out.b.below HB0.out) HL.out.b).mono ?_
  rintro e w4 ⟨s1, rfl, ho1, hb1⟩
  have HO1 := Lib.hid ho1
  have HB1 := keep_below' hb1 HB0
  have hy4 := (hb1.block _ hz0d).trans (show w3.drew.heap[w.heap.size + 1]? = _ from HY.out)
  have r0 : w4.cell? ⟨w.heap.size + 1, 0, none⟩ = some (.int .i64 0) := by rw [cell_at hy4]; rfl
  have r1 : w4.cell? ⟨w.heap.size + 1, 1, none⟩ = some (.slice none 0 0) := by rw [cell_at hy4]; rfl
  have q0 : w4.frozen? ⟨w.heap.size + 1, 0, none⟩ = false := frozen_at hy4 _
  have q1 : w4.frozen? ⟨w.heap.size + 1, 1, none⟩ = false := frozen_at hy4 _
  have HS1 := (And.intro (keep_cell hb1 HS.1) (keep_cell hb1 HS.2))
  have HSh1 := Lib.hid HS1
  have HY4 := Lib.hid hy4
  clear ho1 HS HS1 hy4
  go_wp2_with fail
  refine hK.out _ _ (fun _ => HSh1.out) ?_
  clear hK K
  try simp only [Act.put, List.setIfInBounds_toArray, List.set_cons_zero, List.set_cons_succ]
  refine wpAnyK_take (i := 6) (g := 8) (v := .agg #[.int .i64 p.steps.length, .slice s1.a p.before.length s1.c]) rfl (by kernel_rfl) (fun _ _ _ h => h) (Or.inl ⟨by rfl, fun w' hw' => ?_⟩) HSh1.out ?_
  · obtain ⟨k2, k3⟩ := hw'
    go_simp
  try simp only [Act.put, List.setIfInBounds_toArray, List.set_cons_zero, List.set_cons_succ]
  refine wpAnyK_one (i := 7) (by kernel_rfl) rfl rfl (fun K hK => ?_)
  go_simp
  refine hK.out _ _ (fun h => nomatch (show true = false from h)) ?_
  clear hK K
  try simp only [Act.put, List.setIfInBounds_toArray, List.set_cons_zero, List.set_cons_succ]
  refine wpAnyK_done (by kernel_rfl) ?_
  have hfin := heap_set_same (heap_set_same HY4.out 0 (.int .i64 p.steps.length)) 1 (s1.v p.before.length)
  have k8 : Kp (w.heap.size + 2) w4 ((w4.setCell ⟨w.heap.size + 1, 0, none⟩ (.int .i64 p.steps.length)).setCell ⟨w.heap.size + 1, 1, none⟩ (s1.v p.before.length)) := ((Kp.refl (w.heap.size + 2) w4).set (p := ⟨_, 0, none⟩) (Nat.lt_succ_self _) _).set (p := ⟨_, 1, none⟩) (Nat.lt_succ_self _) _
  have hb8 : Hid (Below w.heap.size w ((w4.setCell ⟨w.heap.size + 1, 0, none⟩ (.int .i64 p.steps.length)).setCell ⟨w.heap.size + 1, 1, none⟩ (s1.v p.before.length))) := st_below (st_below HB1 (Nat.le_succ _)) (Nat.le_succ _)
  have HE := Lib.hid (And.intro hfin (And.intro ((HO1.out.step k8 hz0d).lower (Nat.le_of_lt (Nat.lt_of_succ_lt hz0d))) hb8.out))
  clear hfin k8 hb8 r0 r1 q0 q1 hb1
  go_wp2
  refine bodyPost_ret (v := graphV p.steps.length s1 p.before) (YtedalanhjhiehaaDoorW.PrintWords.results_single rfl (.cell (w.heap.size + 1) 76 _ _ _ rfl HE.out.1 Tryd.underlying76 rfl (by kernel_rfl) .nil)) rfl ?_
  exact ⟨s1, rfl, HE.out.2.1, HE.out.2.2⟩
end Go.Proofs.YtedalanhjhiehaaDoor
