import Derived.Test.YtedalanhjhiehaaDoorQh
import Derived.Deep.RegionHeld3
import Derived.Deep.DrawnRows
namespace Go.Proofs.YtedalanhjhiehaaDoor
open Go.RowKit
open YtedalanhjhiehaaDoorW.PrintWords (nums ReadsInt rd own_slice own_typed Kd)
attribute [local go_sem ↓] Go.wp_at_zero Go.wp_at_succ

def CpP (w : World) (p : PlanP) (e : Ending) (w' : World) : Prop := ∃ v' : PV, e = .returned (planV v' p) ∧ OwPlan w' w.heap.size v' p ∧ Below w.heap.size w w'

theorem keep_cell {wk w1 : World} (hb : Below wk.heap.size wk w1) {a : Addr} {u : Value} (h : wk.cell? a = some u) : w1.cell? a = some u := (hb.cell (World.block_lt_of_cell? wk _ h)).trans h
theorem keep_frz {wk w1 : World} (hb : Below wk.heap.size wk w1) {a : Addr} {u : Value} (h : wk.cell? a = some u) (hf : wk.frozen? a = false) : w1.frozen? a = false := (hb.frozen (World.block_lt_of_cell? wk _ h)).trans hf
theorem keep_below {w0 wk w1 : World} (hb : Below wk.heap.size wk w1) (h : Hid (Below w0.heap.size w0 wk)) : Hid (Below w0.heap.size w0 w1) := Lib.hid (h.out.trans (hb.mono h.out.size))
theorem below_of_alloc2 (w : World) (o1 o2 : Obj) : Below w.heap.size w ((w.alloc o1).alloc o2) := ((Below.refl _ _).alloc (Nat.le_refl _) _).alloc (by simp) _
theorem alloc2_fst (w : World) (o1 o2 : Obj) : ((w.alloc o1).alloc o2).heap[w.heap.size]? = some o1 := by
  have := heap_alloc_new w o1
  rw [((Below.refl (w.alloc o1).heap.size (w.alloc o1)).alloc (Nat.le_refl _) o2).block _ (by simp)]
  exact this
theorem alloc2_snd (w : World) (o1 o2 : Obj) : ((w.alloc o1).alloc o2).heap[w.heap.size + 1]? = some o2 := by
  have := heap_alloc_new (w.alloc o1) o2
  simpa using this

theorem st_cell {w : World} {p a : Addr} {u v : Value} (h : w.cell? a = some u) (hne : p.block ≠ a.block) : (w.setCell p v).cell? a = some u := (World.cell?_setCell_far _ _ _ _ hne).trans h
theorem st_some {w : World} {p a : Addr} {v : Value} (h : (w.cell? a).isSome = true) : ((w.setCell p v).cell? a).isSome = true := by
  by_cases e : p = a
  · subst e
    obtain ⟨u, hu⟩ := Option.isSome_iff_exists.1 h
    rw [World.cell?_setCell_same _ _ _ hu]; rfl
  · rw [World.cell?_setCell_other _ _ _ _ e]; exact h
theorem st_frz {w : World} {p a : Addr} {v : Value} (h : w.frozen? a = false) : (w.setCell p v).frozen? a = false := by rw [World.frozen?_setCell]; exact h
theorem st_below {B : Nat} {w0 w : World} {p : Addr} {v : Value} (h : Hid (Below B w0 w)) (hp : B ≤ p.block) : Hid (Below B w0 (w.setCell p v)) := Lib.hid (h.out.setCell hp v)
theorem stored_some {P : Program} {w : World} {a : Addr} {v : Value} {m : Mode} (h : (w.cell? a).isSome = true) (hf : w.frozen? a = false) : stored P w a v m = .ok () (w.setCell a v) := by
  obtain ⟨u, hu⟩ := Option.isSome_iff_exists.1 h
  simp [stored, hu, hf]
theorem isSome_setCell {w : World} {p a : Addr} {v : Value} (h : (w.cell? a).isSome = true) : ((w.setCell p v).cell? a).isSome = true := st_some h
theorem keep_some {wk w1 : World} (hb : Below wk.heap.size wk w1) {a : Addr} (h : (wk.cell? a).isSome = true) : (w1.cell? a).isSome = true := by
  obtain ⟨u, hu⟩ := Option.isSome_iff_exists.1 h
  rw [keep_cell hb hu]; rfl
theorem keep_frz' {wk w1 : World} (hb : Below wk.heap.size wk w1) {a : Addr} (h : (wk.cell? a).isSome = true) (hf : wk.frozen? a = false) : w1.frozen? a = false := by
  obtain ⟨u, hu⟩ := Option.isSome_iff_exists.1 h
  exact keep_frz hb hu hf
theorem keep_below' {w0 wk w1 : World} (hb : Below wk.heap.size wk w1) (h : Hid (Below w0.heap.size w0 wk)) : Hid (Below w0.heap.size w0 w1) := Lib.hid (h.out.trans (hb.mono h.out.size))
theorem drew_below {B : Nat} {w0 w : World} (h : Below B w0 w) : Hid (Below B w0 w.drew) := Lib.hid ⟨h.os, h.tape, h.output, h.size, h.block⟩
theorem OwI.far {w : World} {B : Nat} {s : SL} {xs : List Int} (h : OwI w B s xs) {p : Addr} (hp : p.block < B) (u : Value) : OwI (w.setCell p u) B s xs :=
  ⟨Kd.R_mono (Kd.R_far (Kd.R_bound h.r) (fun k hk => by have := hk.2.1; omega) u) (fun _ _ => trivial)⟩
theorem OwS.far {e : Nat} {w : World} {B : Nat} {s : SL} {xs : List (Int × Int)} (h : OwS e w B s xs) {p : Addr} (hp : p.block < B) (u : Value) : OwS e (w.setCell p u) B s xs :=
  ⟨Kd.R_mono (Kd.R_far (Kd.R_bound h.r) (fun k hk => by have := hk.2.1; omega) u) (fun _ _ => trivial)⟩

set_option maxHeartbeats 4000000 in
set_option maxRecDepth 100000 in
theorem copied_any (v : PV) (p : PlanP) (w : World) (h : RdPlan w v p) (hl : Lens p) : Calls Tryd.prog 21 #[planV v p] w (CpP w p) := by
  obtain ⟨w3, hw3⟩ : ∃ w3, w3 = (w.alloc (.cells #[v.f.v p.fr.length, v.t.v p.tt.length, v.s.v p.steps.length, v.b.v p.before.length] 26)).alloc (.cells #[.slice none 0 0, .slice none 0 0, .slice none 0 0, .slice none 0 0] 26) := ⟨_, rfl⟩
  have hb3 : Below w.heap.size w w3 := by rw [hw3]; exact below_of_alloc2 _ _ _
  have hx := alloc2_fst w (.cells #[v.f.v p.fr.length, v.t.v p.tt.length, v.s.v p.steps.length, v.b.v p.before.length] 26) (.cells #[.slice none 0 0, .slice none 0 0, .slice none 0 0, .slice none 0 0] 26)
  have hy := alloc2_snd w (.cells #[v.f.v p.fr.length, v.t.v p.tt.length, v.s.v p.steps.length, v.b.v p.before.length] 26) (.cells #[.slice none 0 0, .slice none 0 0, .slice none 0 0, .slice none 0 0] 26)
  rw [← hw3] at hx hy
  have c0 : w3.cell? ⟨w.heap.size, 0, none⟩ = some (v.f.v p.fr.length) := by rw [cell_at hx]; rfl
  have c1 : w3.cell? ⟨w.heap.size, 1, none⟩ = some (v.t.v p.tt.length) := by rw [cell_at hx]; rfl
  have c2 : w3.cell? ⟨w.heap.size, 2, none⟩ = some (v.s.v p.steps.length) := by rw [cell_at hx]; rfl
  have c3 : w3.cell? ⟨w.heap.size, 3, none⟩ = some (v.b.v p.before.length) := by rw [cell_at hx]; rfl
  have d0 : w3.cell? ⟨w.heap.size + 1, 0, none⟩ = some (.slice none 0 0) := by rw [cell_at hy]; rfl
  have d1 : w3.cell? ⟨w.heap.size + 1, 1, none⟩ = some (.slice none 0 0) := by rw [cell_at hy]; rfl
  have d2 : w3.cell? ⟨w.heap.size + 1, 2, none⟩ = some (.slice none 0 0) := by rw [cell_at hy]; rfl
  have d3 : w3.cell? ⟨w.heap.size + 1, 3, none⟩ = some (.slice none 0 0) := by rw [cell_at hy]; rfl
  have f0 : w3.frozen? ⟨w.heap.size + 1, 0, none⟩ = false := frozen_at hy _
  have f1 : w3.frozen? ⟨w.heap.size + 1, 1, none⟩ = false := frozen_at hy _
  have f2 : w3.frozen? ⟨w.heap.size + 1, 2, none⟩ = false := frozen_at hy _
  have f3 : w3.frozen? ⟨w.heap.size + 1, 3, none⟩ = false := frozen_at hy _
  have H := Lib.hid h
  have HB3 := Lib.hid hb3
  have HL := Lib.hid hl
  have HY := Lib.hid hy
  have HW := Lib.hid hw3
  clear h hb3 hx hl hy
  unfold planV SL.v at *
  go_enter Tryd.func21, Tryd.ntmps21
  go_wp2_with fail
  rw [← hw3]
  clear hw3
  have hne : w.heap.size + 1 ≠ w.heap.size := by omega
  have hz0 : w.heap.size + 1 < w3.heap.size := lt_of HY.out
  go_region_held3 (fun w' => w'.cell? ⟨w.heap.size, 0, none⟩ = some (.slice v.f.a p.fr.length v.f.c) ∧ w'.cell? ⟨w.heap.size, 1, none⟩ = some (.slice v.t.a p.tt.length v.t.c) ∧ w'.cell? ⟨w.heap.size, 2, none⟩ = some (.slice v.s.a p.steps.length v.s.c) ∧ w'.cell? ⟨w.heap.size, 3, none⟩ = some (.slice v.b.a p.before.length v.b.c) ∧ Hid (Below w.heap.size w w'))
    (first
      | (go_split_ands; with_reducible exact ⟨keep_cell hb4 (by with_reducible assumption), keep_cell hb4 (by with_reducible assumption), keep_cell hb4 (by with_reducible assumption), keep_cell hb4 (by with_reducible assumption), keep_below' hb4 (by with_reducible assumption)⟩)
      | (go_split_ands; with_reducible exact ⟨keep_cell hb3 (by with_reducible assumption), keep_cell hb3 (by with_reducible assumption), keep_cell hb3 (by with_reducible assumption), keep_cell hb3 (by with_reducible assumption), keep_below' hb3 (by with_reducible assumption)⟩)
      | (go_split_ands; with_reducible exact ⟨keep_cell hb2 (by with_reducible assumption), keep_cell hb2 (by with_reducible assumption), keep_cell hb2 (by with_reducible assumption), keep_cell hb2 (by with_reducible assumption), keep_below' hb2 (by with_reducible assumption)⟩)
      | (go_split_ands; with_reducible exact ⟨keep_cell hb1 (by with_reducible assumption), keep_cell hb1 (by with_reducible assumption), keep_cell hb1 (by with_reducible assumption), keep_cell hb1 (by with_reducible assumption), keep_below' hb1 (by with_reducible assumption)⟩)
      | (go_split_ands; with_reducible exact ⟨st_cell (st_cell (st_cell (st_cell (by with_reducible assumption) hne) hne) hne) hne, st_cell (st_cell (st_cell (st_cell (by with_reducible assumption) hne) hne) hne) hne, st_cell (st_cell (st_cell (st_cell (by with_reducible assumption) hne) hne) hne) hne, st_cell (st_cell (st_cell (st_cell (by with_reducible assumption) hne) hne) hne) hne, st_below (st_below (st_below (st_below (by with_reducible assumption) (by simp)) (by simp)) (by simp)) (by simp)⟩)
      | exact ⟨c0, c1, c2, c3, drew_below HB3.out⟩)
    (first
      | (go_at_call 30; go_split_ands; refine (cloneI_any v.f p.fr _ ?_ ?_).mono ?_; exact H.out.f.below (Hid.out (by with_reducible assumption)); exact HL.out.f; rintro e w' ⟨s1, rfl, ho1, hb1⟩; have HO1 := Lib.hid ho1; clear ho1; obtain ⟨hc1, hf1⟩ := bcell (W := w3) ⟨hb1.os, hb1.tape, hb1.output, hb1.size, hb1.block⟩; have hz1 : w.heap.size + 1 < w'.heap.size := Nat.lt_of_lt_of_le hz0 hb1.size)
      | (go_at_call 30; go_split_ands; refine (cloneI_any v.t p.tt _ ?_ ?_).mono ?_; exact H.out.t.below (Hid.out (by with_reducible assumption)); exact HL.out.t; rintro e w' ⟨s2, rfl, ho2, hb2⟩; have HO2 := Lib.hid ho2; clear ho2; obtain ⟨hc2, hf2⟩ := bcell hb2; have hz2 : w.heap.size + 1 < w'.heap.size := Nat.lt_of_lt_of_le hz1 hb2.size)
      | (go_at_call 31; go_split_ands; refine (cloneS_any v.s p.steps _ ?_ ?_).mono ?_; exact H.out.s.below (Hid.out (by with_reducible assumption)); exact HL.out.s; rintro e w' ⟨s3, rfl, ho3, hb3⟩; have HO3 := Lib.hid ho3; clear ho3; obtain ⟨hc3, hf3⟩ := bcell hb3; have hz3 : w.heap.size + 1 < w'.heap.size := Nat.lt_of_lt_of_le hz2 hb3.size)
      | (go_at_call 32; go_split_ands; refine (cloneE_any v.b p.before _ ?_ ?_).mono ?_; exact H.out.b.below (Hid.out (by with_reducible assumption)); exact HL.out.b; rintro e w' ⟨s4, rfl, ho4, hb4⟩; have HO4 := Lib.hid ho4; clear ho4; obtain ⟨hc4, hf4⟩ := bcell hb4; have hz4 : w.heap.size + 1 < w'.heap.size := Nat.lt_of_lt_of_le hz3 hb4.size))
  have hz0d : w.heap.size + 1 < w3.drew.heap.size := hz0
  have O1 := (((((HO1.out.below hb2).below hb3).below hb4).far (p := ⟨w.heap.size + 1, 0, none⟩) hz0d (s1.v p.fr.length)).far (p := ⟨w.heap.size + 1, 1, none⟩) hz0d (s2.v p.tt.length)).far (p := ⟨w.heap.size + 1, 2, none⟩) hz0d (s3.v p.steps.length) |>.far (p := ⟨w.heap.size + 1, 3, none⟩) hz0d (s4.v p.before.length)
  have O2 := ((((HO2.out.below hb3).below hb4).far (p := ⟨w.heap.size + 1, 0, none⟩) hz1 (s1.v p.fr.length)).far (p := ⟨w.heap.size + 1, 1, none⟩) hz1 (s2.v p.tt.length)).far (p := ⟨w.heap.size + 1, 2, none⟩) hz1 (s3.v p.steps.length) |>.far (p := ⟨w.heap.size + 1, 3, none⟩) hz1 (s4.v p.before.length)
  have O3 := (((HO3.out.below hb4).far (p := ⟨w.heap.size + 1, 0, none⟩) hz2 (s1.v p.fr.length)).far (p := ⟨w.heap.size + 1, 1, none⟩) hz2 (s2.v p.tt.length)).far (p := ⟨w.heap.size + 1, 2, none⟩) hz2 (s3.v p.steps.length) |>.far (p := ⟨w.heap.size + 1, 3, none⟩) hz2 (s4.v p.before.length)
  have O4 := ((HO4.out.far (p := ⟨w.heap.size + 1, 0, none⟩) hz3 (s1.v p.fr.length)).far (p := ⟨w.heap.size + 1, 1, none⟩) hz3 (s2.v p.tt.length)).far (p := ⟨w.heap.size + 1, 2, none⟩) hz3 (s3.v p.steps.length) |>.far (p := ⟨w.heap.size + 1, 3, none⟩) hz3 (s4.v p.before.length)
  have HP := Lib.hid (And.intro (And.intro (O1.lower (B' := w.heap.size) (by omega)) (O2.lower (B' := w.heap.size) (by omega))) (And.intro (O3.lower (B' := w.heap.size) (by omega)) (O4.lower (B' := w.heap.size) (by omega))))
  clear O1 O2 O3 O4 hc1 hc2 hc3 hc4 hf1 hf2 hf3 hf4
  go_split_ands
  have HF : Hid (Below w.heap.size w ((((w'.setCell ⟨w.heap.size + 1, 0, none⟩ (s1.v p.fr.length)).setCell ⟨w.heap.size + 1, 1, none⟩ (s2.v p.tt.length)).setCell ⟨w.heap.size + 1, 2, none⟩ (s3.v p.steps.length)).setCell ⟨w.heap.size + 1, 3, none⟩ (s4.v p.before.length))) := by with_reducible assumption
  have hyw := (hb4.block _ hz3).trans ((hb3.block _ hz2).trans ((hb2.block _ hz1).trans ((hb1.block _ hz0d).trans (show w3.drew.heap[w.heap.size + 1]? = _ from HY.out))))
  have HG := Lib.hid (heap_set_same (heap_set_same (heap_set_same (heap_set_same hyw 0 (s1.v p.fr.length)) 1 (s2.v p.tt.length)) 2 (s3.v p.steps.length)) 3 (s4.v p.before.length))
  clear hyw
  go_wp2
  refine bodyPost_ret (v := planV ⟨s1, s2, s3, s4⟩ p) (YtedalanhjhiehaaDoorW.PrintWords.results_single rfl (.cell (w.heap.size + 1) 26 _ _ _ rfl HG.out Tryd.underlying26 rfl (by kernel_rfl) .nil)) rfl ?_
  exact ⟨⟨s1, s2, s3, s4⟩, rfl, ⟨HP.out.1.1, HP.out.1.2, HP.out.2.1, HP.out.2.2⟩, HF.out⟩
end Go.Proofs.YtedalanhjhiehaaDoor
