import Derived.Test.YtedalanhjhiehaaDoorSb
set_option linter.unusedSimpArgs false
set_option linter.unusedVariables false
namespace Go.Proofs.YtedalanhjhiehaaDoor
open Go.RowKit
open YtedalanhjhiehaaDoorW.PrintWords (nums ReadsInt rd own_slice own_typed Kd)

def smallB (p : PlanP) : Bool := decide (p.fr.length ≤ 50) && (decide (p.tt.length ≤ 50) && (decide (p.steps.length ≤ 100) && decide (p.before.length ≤ 200)))
theorem smallB_lens {p : PlanP} (h : smallB p = true) : p.fr.length ≤ 50 ∧ p.tt.length ≤ 50 ∧ p.steps.length ≤ 100 ∧ p.before.length ≤ 200 := by simpa [smallB] using h
theorem smallB_of {p : PlanP} (h : smallB p = true) : Lens p := by
  obtain ⟨h1, h2, h3, h4⟩ := smallB_lens h
  exact ⟨by omega, by omega, by omega, by omega⟩
theorem grown_blkS {e : Nat} {w w' : World} {B k : Nat} {s : SL} {xs : List (Int × Int)} {o : Obj} (h : OwS e w B s xs) (hg : w.grownBy w' s.blk) (hk : k < B) (ho : w.heap[k]? = some o) : w'.heap[k]? = some o :=
  (hg.block k (lt_of ho) (fun e => by have := ((Kd.R_bound h.r).1 k (by rw [own_blk]; exact e.symm)).2.1; omega)).trans ho
/-- the document's plan of a plan -/
def PlP (w : World) (v : PV) (p : PlanP) (e : Ending) (w' : World) : Prop := ∃ (s : SL) (xs : List (Int × Int)), e = .returned (.tuple #[.agg #[v.f.v p.fr.length, v.t.v p.tt.length, s.v xs.length, v.b.v p.before.length], .bool (smallB p)]) ∧ (smallB p = true → xs = p.steps) ∧ RdP w' s xs ∧ Below w.heap.size w w'

set_option maxHeartbeats 8000000 in
set_option maxRecDepth 100000 in
theorem madePlan_any (v : PV) (p : PlanP) (w : World) (h : RdPlan w v p) : Calls Tryd.prog 6 #[planV v p] w (PlP w v p) := by
  obtain ⟨w3, hw3⟩ : ∃ w3, w3 = ((w.alloc (.cells #[v.f.v p.fr.length, v.t.v p.tt.length, v.s.v p.steps.length, v.b.v p.before.length] 26)).alloc (.cells #[.slice none 0 0, .slice none 0 0, .slice none 0 0, .slice none 0 0] 30)).alloc (.cells #[v.f.v p.fr.length, v.t.v p.tt.length, .slice none 0 0, v.b.v p.before.length] 30) := ⟨_, rfl⟩
  have hb3 : Below w.heap.size w w3 := by rw [hw3]; exact below_alloc3 _ _ _ _
  have hx := alloc3_fst w (.cells #[v.f.v p.fr.length, v.t.v p.tt.length, v.s.v p.steps.length, v.b.v p.before.length] 26) (.cells #[.slice none 0 0, .slice none 0 0, .slice none 0 0, .slice none 0 0] 30) (.cells #[v.f.v p.fr.length, v.t.v p.tt.length, .slice none 0 0, v.b.v p.before.length] 30)
  have hy := alloc3_snd w (.cells #[v.f.v p.fr.length, v.t.v p.tt.length, v.s.v p.steps.length, v.b.v p.before.length] 26) (.cells #[.slice none 0 0, .slice none 0 0, .slice none 0 0, .slice none 0 0] 30) (.cells #[v.f.v p.fr.length, v.t.v p.tt.length, .slice none 0 0, v.b.v p.before.length] 30)
  have hz := alloc3_thd w (.cells #[v.f.v p.fr.length, v.t.v p.tt.length, v.s.v p.steps.length, v.b.v p.before.length] 26) (.cells #[.slice none 0 0, .slice none 0 0, .slice none 0 0, .slice none 0 0] 30) (.cells #[v.f.v p.fr.length, v.t.v p.tt.length, .slice none 0 0, v.b.v p.before.length] 30)
  rw [← hw3] at hx hy hz
  have hs3 : w3.heap.size = w.heap.size + 3 := by rw [hw3]; simp
  have H := Lib.hid h
  have HB3 := Lib.hid (And.intro hb3 (And.intro hx (And.intro hy hz)))
  clear h hb3
  have c0 : w3.cell? ⟨w.heap.size, 0, none⟩ = some (.slice v.f.a p.fr.length v.f.c) := by rw [cell_at hx]; rfl
  have c1 : w3.cell? ⟨w.heap.size, 1, none⟩ = some (.slice v.t.a p.tt.length v.t.c) := by rw [cell_at hx]; rfl
  have c2 : w3.cell? ⟨w.heap.size, 2, none⟩ = some (.slice v.s.a p.steps.length v.s.c) := by rw [cell_at hx]; rfl
  have c3 : w3.cell? ⟨w.heap.size, 3, none⟩ = some (.slice v.b.a p.before.length v.b.c) := by rw [cell_at hx]; rfl
  have d0 : w3.cell? ⟨w.heap.size + 2, 0, none⟩ = some (.slice v.f.a p.fr.length v.f.c) := by rw [cell_at hz]; rfl
  have d1 : w3.cell? ⟨w.heap.size + 2, 1, none⟩ = some (.slice v.t.a p.tt.length v.t.c) := by rw [cell_at hz]; rfl
  have d2 : w3.cell? ⟨w.heap.size + 2, 2, none⟩ = some (.slice none 0 0) := by rw [cell_at hz]; rfl
  have d3 : w3.cell? ⟨w.heap.size + 2, 3, none⟩ = some (.slice v.b.a p.before.length v.b.c) := by rw [cell_at hz]; rfl
  have f0 : w3.frozen? ⟨w.heap.size + 1, 0, none⟩ = false := frozen_at hy _
  have g0 : w3.cell? ⟨w.heap.size + 1, 0, none⟩ = some (.slice none 0 0) := by rw [cell_at hy]; rfl
  have f1 : w3.frozen? ⟨w.heap.size + 1, 1, none⟩ = false := frozen_at hy _
  have g1 : w3.cell? ⟨w.heap.size + 1, 1, none⟩ = some (.slice none 0 0) := by rw [cell_at hy]; rfl
  have f2 : w3.frozen? ⟨w.heap.size + 1, 2, none⟩ = false := frozen_at hy _
  have g2 : w3.cell? ⟨w.heap.size + 1, 2, none⟩ = some (.slice none 0 0) := by rw [cell_at hy]; rfl
  have f3 : w3.frozen? ⟨w.heap.size + 1, 3, none⟩ = false := frozen_at hy _
  have g3 : w3.cell? ⟨w.heap.size + 1, 3, none⟩ = some (.slice none 0 0) := by rw [cell_at hy]; rfl
  clear hx hy hz
  by_cases l0 : 50 < p.fr.length
  · skip
    have n0 : (50 : Int) < (p.fr.length : Int) := by omega
    have HF : Hid (smallB p = false) := Lib.hid (by simp [smallB]; omega)
    have hx8 := (heap_set_same (heap_set_same (heap_set_same (heap_set_same HB3.out.2.2.1 0 (.slice v.f.a p.fr.length v.f.c)) 1 (.slice v.t.a p.tt.length v.t.c)) 2 (.slice none 0 0)) 3 (.slice v.b.a p.before.length v.b.c))
    simp only [List.setIfInBounds_toArray, List.set_cons_zero, List.set_cons_succ] at hx8
    have hb8 : Hid (Below w.heap.size w ((((w3.setCell ⟨w.heap.size + 1, 0, none⟩ (.slice v.f.a p.fr.length v.f.c)).setCell ⟨w.heap.size + 1, 1, none⟩ (.slice v.t.a p.tt.length v.t.c)).setCell ⟨w.heap.size + 1, 2, none⟩ (.slice none 0 0)).setCell ⟨w.heap.size + 1, 3, none⟩ (.slice v.b.a p.before.length v.b.c))) := st_below (st_below (st_below (st_below ((Lib.hid HB3.out.1)) (Nat.le_add_right _ _)) (Nat.le_add_right _ _)) (Nat.le_add_right _ _)) (Nat.le_add_right _ _)
    have HE := Lib.hid (And.intro hx8 hb8.out)
    clear hx8 hb8
    unfold planV SL.v at *
    go_enter Tryd.func6, Tryd.ntmps6
    go_upto_region 2 with (fail)
    rw [← hw3]
    clear hw3
    clear HB3 H hs3
    go_wp2
    refine bodyPost_ret (v := .tuple #[.agg #[.slice v.f.a p.fr.length v.f.c, .slice v.t.a p.tt.length v.t.c, .slice none 0 0, .slice v.b.a p.before.length v.b.c], .bool false]) (YtedalanhjhiehaaDoorW.PrintWords.results_list (rs := [.cell 2 30, .tmp 3]) rfl (by simp) (.cell (w.heap.size + 1) 30 _ _ _ rfl HE.out.1 Tryd.underlying30 rfl (by kernel_rfl) (.tmp .nil))) rfl ?_
    exact ⟨⟨none, 0⟩, [], by rw [HF.out]; rfl, (fun h => absurd h (by rw [HF.out]; decide)), rdP_nil _, HE.out.2⟩
  by_cases l1 : 50 < p.tt.length
  · skip
    have n0 : ¬ (50 : Int) < (p.fr.length : Int) := by omega
    have n1 : (50 : Int) < (p.tt.length : Int) := by omega
    have HF : Hid (smallB p = false) := Lib.hid (by simp [smallB]; omega)
    have hx8 := (heap_set_same (heap_set_same (heap_set_same (heap_set_same HB3.out.2.2.1 0 (.slice v.f.a p.fr.length v.f.c)) 1 (.slice v.t.a p.tt.length v.t.c)) 2 (.slice none 0 0)) 3 (.slice v.b.a p.before.length v.b.c))
    simp only [List.setIfInBounds_toArray, List.set_cons_zero, List.set_cons_succ] at hx8
    have hb8 : Hid (Below w.heap.size w ((((w3.setCell ⟨w.heap.size + 1, 0, none⟩ (.slice v.f.a p.fr.length v.f.c)).setCell ⟨w.heap.size + 1, 1, none⟩ (.slice v.t.a p.tt.length v.t.c)).setCell ⟨w.heap.size + 1, 2, none⟩ (.slice none 0 0)).setCell ⟨w.heap.size + 1, 3, none⟩ (.slice v.b.a p.before.length v.b.c))) := st_below (st_below (st_below (st_below ((Lib.hid HB3.out.1)) (Nat.le_add_right _ _)) (Nat.le_add_right _ _)) (Nat.le_add_right _ _)) (Nat.le_add_right _ _)
    have HE := Lib.hid (And.intro hx8 hb8.out)
    clear hx8 hb8
    unfold planV SL.v at *
    go_enter Tryd.func6, Tryd.ntmps6
    go_upto_region 2 with (fail)
    rw [← hw3]
    clear hw3
    clear HB3 H hs3
    go_wp2
    refine bodyPost_ret (v := .tuple #[.agg #[.slice v.f.a p.fr.length v.f.c, .slice v.t.a p.tt.length v.t.c, .slice none 0 0, .slice v.b.a p.before.length v.b.c], .bool false]) (YtedalanhjhiehaaDoorW.PrintWords.results_list (rs := [.cell 2 30, .tmp 3]) rfl (by simp) (.cell (w.heap.size + 1) 30 _ _ _ rfl HE.out.1 Tryd.underlying30 rfl (by kernel_rfl) (.tmp .nil))) rfl ?_
    exact ⟨⟨none, 0⟩, [], by rw [HF.out]; rfl, (fun h => absurd h (by rw [HF.out]; decide)), rdP_nil _, HE.out.2⟩
  by_cases l2 : 100 < p.steps.length
  · skip
    have n0 : ¬ (50 : Int) < (p.fr.length : Int) := by omega
    have n1 : ¬ (50 : Int) < (p.tt.length : Int) := by omega
    have n2 : (100 : Int) < (p.steps.length : Int) := by omega
    have HF : Hid (smallB p = false) := Lib.hid (by simp [smallB]; omega)
    have hx8 := (heap_set_same (heap_set_same (heap_set_same (heap_set_same HB3.out.2.2.1 0 (.slice v.f.a p.fr.length v.f.c)) 1 (.slice v.t.a p.tt.length v.t.c)) 2 (.slice none 0 0)) 3 (.slice v.b.a p.before.length v.b.c))
    simp only [List.setIfInBounds_toArray, List.set_cons_zero, List.set_cons_succ] at hx8
    have hb8 : Hid (Below w.heap.size w ((((w3.setCell ⟨w.heap.size + 1, 0, none⟩ (.slice v.f.a p.fr.length v.f.c)).setCell ⟨w.heap.size + 1, 1, none⟩ (.slice v.t.a p.tt.length v.t.c)).setCell ⟨w.heap.size + 1, 2, none⟩ (.slice none 0 0)).setCell ⟨w.heap.size + 1, 3, none⟩ (.slice v.b.a p.before.length v.b.c))) := st_below (st_below (st_below (st_below ((Lib.hid HB3.out.1)) (Nat.le_add_right _ _)) (Nat.le_add_right _ _)) (Nat.le_add_right _ _)) (Nat.le_add_right _ _)
    have HE := Lib.hid (And.intro hx8 hb8.out)
    clear hx8 hb8
    unfold planV SL.v at *
    go_enter Tryd.func6, Tryd.ntmps6
    go_upto_region 2 with (fail)
    rw [← hw3]
    clear hw3
    clear HB3 H hs3
    go_wp2
    refine bodyPost_ret (v := .tuple #[.agg #[.slice v.f.a p.fr.length v.f.c, .slice v.t.a p.tt.length v.t.c, .slice none 0 0, .slice v.b.a p.before.length v.b.c], .bool false]) (YtedalanhjhiehaaDoorW.PrintWords.results_list (rs := [.cell 2 30, .tmp 3]) rfl (by simp) (.cell (w.heap.size + 1) 30 _ _ _ rfl HE.out.1 Tryd.underlying30 rfl (by kernel_rfl) (.tmp .nil))) rfl ?_
    exact ⟨⟨none, 0⟩, [], by rw [HF.out]; rfl, (fun h => absurd h (by rw [HF.out]; decide)), rdP_nil _, HE.out.2⟩
  by_cases l3 : 200 < p.before.length
  · skip
    have n0 : ¬ (50 : Int) < (p.fr.length : Int) := by omega
    have n1 : ¬ (50 : Int) < (p.tt.length : Int) := by omega
    have n2 : ¬ (100 : Int) < (p.steps.length : Int) := by omega
    have n3 : (200 : Int) < (p.before.length : Int) := by omega
    have HF : Hid (smallB p = false) := Lib.hid (by simp [smallB]; omega)
    have hx8 := (heap_set_same (heap_set_same (heap_set_same (heap_set_same HB3.out.2.2.1 0 (.slice v.f.a p.fr.length v.f.c)) 1 (.slice v.t.a p.tt.length v.t.c)) 2 (.slice none 0 0)) 3 (.slice v.b.a p.before.length v.b.c))
    simp only [List.setIfInBounds_toArray, List.set_cons_zero, List.set_cons_succ] at hx8
    have hb8 : Hid (Below w.heap.size w ((((w3.setCell ⟨w.heap.size + 1, 0, none⟩ (.slice v.f.a p.fr.length v.f.c)).setCell ⟨w.heap.size + 1, 1, none⟩ (.slice v.t.a p.tt.length v.t.c)).setCell ⟨w.heap.size + 1, 2, none⟩ (.slice none 0 0)).setCell ⟨w.heap.size + 1, 3, none⟩ (.slice v.b.a p.before.length v.b.c))) := st_below (st_below (st_below (st_below ((Lib.hid HB3.out.1)) (Nat.le_add_right _ _)) (Nat.le_add_right _ _)) (Nat.le_add_right _ _)) (Nat.le_add_right _ _)
    have HE := Lib.hid (And.intro hx8 hb8.out)
    clear hx8 hb8
    unfold planV SL.v at *
    go_enter Tryd.func6, Tryd.ntmps6
    go_upto_region 2 with (fail)
    rw [← hw3]
    clear hw3
    clear HB3 H hs3
    go_wp2
    refine bodyPost_ret (v := .tuple #[.agg #[.slice v.f.a p.fr.length v.f.c, .slice v.t.a p.tt.length v.t.c, .slice none 0 0, .slice v.b.a p.before.length v.b.c], .bool false]) (YtedalanhjhiehaaDoorW.PrintWords.results_list (rs := [.cell 2 30, .tmp 3]) rfl (by simp) (.cell (w.heap.size + 1) 30 _ _ _ rfl HE.out.1 Tryd.underlying30 rfl (by kernel_rfl) (.tmp .nil))) rfl ?_
    exact ⟨⟨none, 0⟩, [], by rw [HF.out]; rfl, (fun h => absurd h (by rw [HF.out]; decide)), rdP_nil _, HE.out.2⟩
  have n0 : ¬ (50 : Int) < (p.fr.length : Int) := by omega
  have n1 : ¬ (50 : Int) < (p.tt.length : Int) := by omega
  have n2 : ¬ (100 : Int) < (p.steps.length : Int) := by omega
  have n3 : ¬ (200 : Int) < (p.before.length : Int) := by omega
  have HF : Hid (smallB p = true) := Lib.hid (by simp [smallB]; omega)
  clear f0 f1 f2 f3 g0 g1 g2 g3
  unfold planV SL.v at *
  go_enter Tryd.func6, Tryd.ntmps6
  go_upto_region 2 with (fail)
  rw [← hw3]
  clear hw3
  go_wp2
  go_loopw [40] (fun i wr => ∃ (k : Nat) (s1 : SL) (ys : List (Int × Int)), k ≤ p.steps.length ∧ i = .int .i64 k ∧ Hid (ys = p.steps.take k) ∧ Hid (wr.heap[w.heap.size + 2]? = some (.cells #[.slice v.f.a p.fr.length v.f.c, .slice v.t.a p.tt.length v.t.c, .slice s1.a ys.length s1.c, .slice v.b.a p.before.length v.b.c] 30 (0, 0))) ∧ Hid (wr.heap[w.heap.size + 1]? = some (.cells #[.slice none 0 0, .slice none 0 0, .slice none 0 0, .slice none 0 0] 30 (0, 0))) ∧ Hid (OwS 55 wr (w.heap.size + 3) s1 ys) ∧ Hid (Below w.heap.size w wr) ∧ w.heap.size + 3 ≤ wr.heap.size) (fun i _ => p.steps.length - (intOf i).toNat)
  case atStart => exact ⟨0, ⟨none, 0⟩, [], Nat.zero_le _, rfl, Lib.hid rfl, Lib.hid HB3.out.2.2.2, Lib.hid HB3.out.2.2.1, Lib.hid (owS_nil _ _ _), Lib.hid HB3.out.1, by omega⟩
  case round =>
    obtain ⟨k, s1, ys, hk, rfl, HYS, HC, HY, HO, HB, hsz⟩ := hrel
    by_cases hlt : k < p.steps.length
    · obtain ⟨ad, he, g0, g1⟩ := (H.out.s.below HB.out).at_ k hlt
      obtain ⟨vf, vt, ⟨A, cp⟩, vb⟩ := v
      obtain rfl : A = some ad := he
      obtain ⟨w4, hw4⟩ : ∃ w4, w4 = wr.alloc (.cells #[.int .i64 p.steps[k].1, .int .i64 p.steps[k].2] 50) := ⟨_, rfl⟩
      have b4 : Below wr.heap.size wr w4 := by rw [hw4]; exact (Below.refl _ _).alloc (Nat.le_refl _) _
      have hs4 : w4.heap.size = wr.heap.size + 1 := by rw [hw4]; simp
      have hx4 : w4.heap[wr.heap.size]? = some (.cells #[.int .i64 p.steps[k].1, .int .i64 p.steps[k].2] 50 (0, 0)) := by rw [hw4]; exact heap_alloc_new wr _
      have q0 : w4.cell? ⟨wr.heap.size, 0, none⟩ = some (.int .i64 p.steps[k].1) := by rw [cell_at hx4]; rfl
      have q1 : w4.cell? ⟨wr.heap.size, 1, none⟩ = some (.int .i64 p.steps[k].2) := by rw [cell_at hx4]; rfl
      have hz4 := (b4.block _ (by omega)).trans HC.out
      have hy4 := (b4.block _ (by omega)).trans HY.out
      have e0 : w4.cell? ⟨w.heap.size + 2, 0, none⟩ = some (.slice vf.a p.fr.length vf.c) := by rw [cell_at hz4]; rfl
      have e1 : w4.cell? ⟨w.heap.size + 2, 1, none⟩ = some (.slice vt.a p.tt.length vt.c) := by rw [cell_at hz4]; rfl
      have e2 : w4.cell? ⟨w.heap.size + 2, 2, none⟩ = some (.slice s1.a ys.length s1.c) := by rw [cell_at hz4]; rfl
      have e3 : w4.cell? ⟨w.heap.size + 2, 3, none⟩ = some (.slice vb.a p.before.length vb.c) := by rw [cell_at hz4]; rfl
      have HX4 := Lib.hid (And.intro hz4 (And.intro hy4 b4))
      have O4 := Lib.hid (HO.out.below b4)
      have hs4' : wr.heap.size < w4.heap.size := by omega
      clear hx4 hz4 hy4 hs4
      have ht3 : (ys.length + 1) * 16 ≤ 140737488355328 := by rw [HYS.out, List.length_take]; omega
      go_upto_region 7 with (fail)
      rw [← hw4]
      clear hw4
      go_wp2_with (at_builtin; go_loud (refine Kd.R_append kP (w0 := w4) (w.heap.size + 3) rfl (.tmp 45) (.tmp 47) 28 55 (.agg #[.int .i64 0, .int .i64 0]) 16 rfl Tryd.underlying28 info55 rfl (by decide) (by decide) _ ys p.steps[k] [.int .i64 p.steps[k].1, .int .i64 p.steps[k].2] (fun _ => True) (fun _ => False) rfl rfl ⟨_, _, rfl, rfl, rfl⟩ (fun _ hk => hk.elim) (fun _ _ => trivial) O4.out.r (Below.refl _ _) (by omega) ht3 ?_; intro v7 w7 hR hB hg _; obtain ⟨zs, hzs⟩ : ∃ zs, zs = ys ++ [p.steps[k]] := ⟨_, rfl⟩; rw [← hzs] at hR; have HZS := Lib.hid hzs; clear hzs; obtain ⟨s7, rfl⟩ := kdR_sl hR; have hg' : w4.grownBy w7 s1.blk := (by rw [← own_blk s1]; exact hg); have hz7 := grown_blkS O4.out hg' (by omega) HX4.out.1; have hy7 := grown_blkS O4.out hg' (by omega) HX4.out.2.1; have HG := Lib.hid (And.intro hR (And.intro hB (And.intro hz7 hy7))); have i2 : w7.cell? ⟨w.heap.size + 2, 2, none⟩ = some (.slice s1.a ys.length s1.c) := (by rw [cell_at hz7]; rfl); have j2 : w7.frozen? ⟨w.heap.size + 2, 2, none⟩ = false := frozen_at hz7 _; clear hR hB hg hg' hz7 hy7 e0 e1 e2 e3 q0 q1))
      have hx9 := heap_set_same HG.out.2.2.1 2 (.slice s7.a zs.length s7.c)
      simp only [List.setIfInBounds_toArray, List.set_cons_zero, List.set_cons_succ] at hx9
      have htk : Hid (zs = p.steps.take (k + 1)) := Lib.hid (by rw [HZS.out, HYS.out]; exact (List.take_succ_eq_append_getElem hlt).symm)
      have O9 : OwS 55 (w7.setCell ⟨w.heap.size + 2, 2, none⟩ (.slice s7.a zs.length s7.c)) (w.heap.size + 3) s7 zs := OwS.step ⟨HG.out.1⟩ ((Kp.refl (w.heap.size + 3) w7).set (p := ⟨_, 2, none⟩) (Nat.lt_succ_self _) _) (Nat.le_refl _)
      have hy9 : (w7.setCell ⟨w.heap.size + 2, 2, none⟩ (.slice s7.a zs.length s7.c)).heap[w.heap.size + 1]? = _ := (Below.heap_setCell w7 ⟨w.heap.size + 2, 2, none⟩ _ _ (by simp)).trans HG.out.2.2.2
      have hb9 := st_below (p := ⟨w.heap.size + 2, 2, none⟩) (v := .slice s7.a zs.length s7.c) (Lib.hid ((HB.out.trans (HX4.out.2.2.mono HB.out.size)).trans (HG.out.2.1.mono (Nat.le_add_right _ _)))) (Nat.le_add_right _ _)
      have HN := Lib.hid (And.intro hx9 (And.intro hy9 (And.intro O9 hb9.out)))
      clear hx9 hy9 O9 hb9
      have hs9 := HG.out.2.1.size
      go_roundw
      case rel => exact ⟨k + 1, s7, zs, by omega, by go_num, htk, Lib.hid HN.out.1, Lib.hid HN.out.2.1, Lib.hid HN.out.2.2.1, Lib.hid HN.out.2.2.2, by simp [World.setCell]; omega⟩
      case measure => simp [intOf]; omega
    · obtain rfl : k = p.steps.length := by omega
      have htk : Hid (ys = p.steps) := Lib.hid (HYS.out.trans List.take_length)
      have e0 : wr.cell? ⟨w.heap.size + 2, 0, none⟩ = some (.slice v.f.a p.fr.length v.f.c) := by rw [cell_at HC.out]; rfl
      have e1 : wr.cell? ⟨w.heap.size + 2, 1, none⟩ = some (.slice v.t.a p.tt.length v.t.c) := by rw [cell_at HC.out]; rfl
      have e2 : wr.cell? ⟨w.heap.size + 2, 2, none⟩ = some (.slice s1.a ys.length s1.c) := by rw [cell_at HC.out]; rfl
      have e3 : wr.cell? ⟨w.heap.size + 2, 3, none⟩ = some (.slice v.b.a p.before.length v.b.c) := by rw [cell_at HC.out]; rfl
      have f0 : wr.frozen? ⟨w.heap.size + 1, 0, none⟩ = false := frozen_at HY.out _
      have g0 : wr.cell? ⟨w.heap.size + 1, 0, none⟩ = some (.slice none 0 0) := by rw [cell_at HY.out]; rfl
      have f1 : wr.frozen? ⟨w.heap.size + 1, 1, none⟩ = false := frozen_at HY.out _
      have g1 : wr.cell? ⟨w.heap.size + 1, 1, none⟩ = some (.slice none 0 0) := by rw [cell_at HY.out]; rfl
      have f2 : wr.frozen? ⟨w.heap.size + 1, 2, none⟩ = false := frozen_at HY.out _
      have g2 : wr.cell? ⟨w.heap.size + 1, 2, none⟩ = some (.slice none 0 0) := by rw [cell_at HY.out]; rfl
      have f3 : wr.frozen? ⟨w.heap.size + 1, 3, none⟩ = false := frozen_at HY.out _
      have g3 : wr.cell? ⟨w.heap.size + 1, 3, none⟩ = some (.slice none 0 0) := by rw [cell_at HY.out]; rfl
      have hx8 := (heap_set_same (heap_set_same (heap_set_same (heap_set_same HY.out 0 (.slice v.f.a p.fr.length v.f.c)) 1 (.slice v.t.a p.tt.length v.t.c)) 2 (.slice s1.a ys.length s1.c)) 3 (.slice v.b.a p.before.length v.b.c))
      simp only [List.setIfInBounds_toArray, List.set_cons_zero, List.set_cons_succ] at hx8
      have hb8 : Hid (Below w.heap.size w ((((wr.setCell ⟨w.heap.size + 1, 0, none⟩ (.slice v.f.a p.fr.length v.f.c)).setCell ⟨w.heap.size + 1, 1, none⟩ (.slice v.t.a p.tt.length v.t.c)).setCell ⟨w.heap.size + 1, 2, none⟩ (.slice s1.a ys.length s1.c)).setCell ⟨w.heap.size + 1, 3, none⟩ (.slice v.b.a p.before.length v.b.c))) := st_below (st_below (st_below (st_below (HB) (Nat.le_add_right _ _)) (Nat.le_add_right _ _)) (Nat.le_add_right _ _)) (Nat.le_add_right _ _)
      have k8 : Kp (w.heap.size + 3) wr ((((wr.setCell ⟨w.heap.size + 1, 0, none⟩ (.slice v.f.a p.fr.length v.f.c)).setCell ⟨w.heap.size + 1, 1, none⟩ (.slice v.t.a p.tt.length v.t.c)).setCell ⟨w.heap.size + 1, 2, none⟩ (.slice s1.a ys.length s1.c)).setCell ⟨w.heap.size + 1, 3, none⟩ (.slice v.b.a p.before.length v.b.c)) := (((((Kp.refl (w.heap.size + 3) wr).set (p := ⟨_, 0, none⟩) (Nat.lt_succ_of_lt (Nat.lt_succ_self _)) _).set (p := ⟨_, 1, none⟩) (Nat.lt_succ_of_lt (Nat.lt_succ_self _)) _).set (p := ⟨_, 2, none⟩) (Nat.lt_succ_of_lt (Nat.lt_succ_self _)) _).set (p := ⟨_, 3, none⟩) (Nat.lt_succ_of_lt (Nat.lt_succ_self _)) _)
      have HE := Lib.hid (And.intro hx8 (And.intro hb8.out (HO.out.step k8 (Nat.le_refl _))))
      clear hx8 hb8 k8
      go_wp2
      refine bodyPost_ret (v := .tuple #[.agg #[.slice v.f.a p.fr.length v.f.c, .slice v.t.a p.tt.length v.t.c, .slice s1.a ys.length s1.c, .slice v.b.a p.before.length v.b.c], .bool true]) (YtedalanhjhiehaaDoorW.PrintWords.results_list (rs := [.cell 2 30, .tmp 3]) rfl (by simp) (.cell (w.heap.size + 1) 30 _ _ _ rfl HE.out.1 Tryd.underlying30 rfl (by kernel_rfl) (.tmp .nil))) rfl ?_
      exact ⟨s1, ys, by rw [HF.out], fun _ => htk.out, HE.out.2.2.rd, HE.out.2.1⟩
end Go.Proofs.YtedalanhjhiehaaDoor
