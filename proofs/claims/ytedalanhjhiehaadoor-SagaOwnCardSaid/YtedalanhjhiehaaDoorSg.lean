import Derived.Test.YtedalanhjhiehaaDoorSf
import Derived.Deep.DeepCutAuto
set_option linter.unusedSimpArgs false
set_option linter.unusedVariables false
namespace Go.Proofs.YtedalanhjhiehaaDoor
open Go.RowKit
open YtedalanhjhiehaaDoorW.PrintWords (nums ReadsInt rd own_slice own_typed Kd)

set_option maxHeartbeats 8000000 in
set_option maxRecDepth 100000 in
theorem anchor_any (w : World) (hT : Tab w) : Calls Tryd.prog 5 #[] w (Ret w (.bool true)) := by
  obtain ⟨w2, hw2⟩ : ∃ w2, w2 = ((w.alloc (.cells #[.int .i64 0, .int .i64 2, .int .i64 1, .int .i64 2] 50)).alloc (.cells #[.int .i64 1, .int .i64 0] 54)).alloc (.cells #[.slice none 0 0, .slice none 0 0, .slice (some ⟨w.heap.size, 0, none⟩) 2 2, .slice (some ⟨w.heap.size + 1, 0, none⟩) 1 1] 26) := ⟨_, rfl⟩
  have hb2 : Below w.heap.size w w2 := by rw [hw2]; exact below_alloc3 _ _ _ _
  have hx2 : w2.heap[w.heap.size]? = some (.cells #[.int .i64 0, .int .i64 2, .int .i64 1, .int .i64 2] 50 (0, 0)) := by rw [hw2]; exact alloc3_fst _ _ _ _
  have hy2 : w2.heap[w.heap.size + 1]? = some (.cells #[.int .i64 1, .int .i64 0] 54 (0, 0)) := by rw [hw2]; exact alloc3_snd _ _ _ _
  have hz2 : w2.heap[w.heap.size + 2]? = some (.cells #[.slice none 0 0, .slice none 0 0, .slice (some ⟨w.heap.size, 0, none⟩) 2 2, .slice (some ⟨w.heap.size + 1, 0, none⟩) 1 1] 26 (0, 0)) := by rw [hw2]; exact alloc3_thd _ _ _ _
  have hs2 : w2.heap.size = w.heap.size + 3 := by rw [hw2]; simp
  obtain ⟨w4, hw4⟩ : ∃ w4, w4 = w2.alloc (.cells #[.int .i64 1, .int .i64 0, .slice none 0 0, .slice none 0 0, .slice (some ⟨w.heap.size, 0, none⟩) 2 2, .slice (some ⟨w.heap.size + 1, 0, none⟩) 1 1, .int .i64 2, .int .i64 1, .slice none 0 0, .slice none 0 0, .slice none 0 0, .slice none 0 0, .int .i64 4, .int .i64 1, .slice none 0 0, .slice none 0 0, .slice none 0 0, .slice none 0 0] 39) := ⟨_, rfl⟩
  have b4 : Below w2.heap.size w2 w4 := by rw [hw4]; exact (Below.refl _ _).alloc (Nat.le_refl _) _
  have hr4 : w4.heap[w2.heap.size]? = some (.cells #[.int .i64 1, .int .i64 0, .slice none 0 0, .slice none 0 0, .slice (some ⟨w.heap.size, 0, none⟩) 2 2, .slice (some ⟨w.heap.size + 1, 0, none⟩) 1 1, .int .i64 2, .int .i64 1, .slice none 0 0, .slice none 0 0, .slice none 0 0, .slice none 0 0, .int .i64 4, .int .i64 1, .slice none 0 0, .slice none 0 0, .slice none 0 0, .slice none 0 0] 39 (0, 0)) := by rw [hw4]; exact heap_alloc_new w2 _
  have hb4 := hb2.trans (b4.mono hb2.size)
  have hx4 := (b4.block _ (by omega)).trans hx2
  have hy4 := (b4.block _ (by omega)).trans hy2
  have HU : RdPlan w4 (⟨⟨none, 0⟩, ⟨none, 0⟩, ⟨some ⟨w.heap.size, 0, none⟩, 2⟩, ⟨some ⟨w.heap.size + 1, 0, none⟩, 1⟩⟩ : PV) P0 := ⟨rdI_nil _, rdI_nil _, rd_steps hx4, rd_before hy4⟩
  have HR := Lib.hid (rd_recs (u := (⟨⟨none, 0⟩, ⟨none, 0⟩, ⟨some ⟨w.heap.size, 0, none⟩, 2⟩, ⟨some ⟨w.heap.size + 1, 0, none⟩, 1⟩⟩ : PV)) HU hr4)
  have HB4 := Lib.hid (And.intro hb4 (hT.below hb4))
  have c0 : w2.cell? ⟨w.heap.size + 2, 0, none⟩ = some (.slice none 0 0) := by rw [cell_at hz2]; rfl
  have c1 : w2.cell? ⟨w.heap.size + 2, 1, none⟩ = some (.slice none 0 0) := by rw [cell_at hz2]; rfl
  have c2 : w2.cell? ⟨w.heap.size + 2, 2, none⟩ = some (.slice (some ⟨w.heap.size, 0, none⟩) 2 2) := by rw [cell_at hz2]; rfl
  have c3 : w2.cell? ⟨w.heap.size + 2, 3, none⟩ = some (.slice (some ⟨w.heap.size + 1, 0, none⟩) 1 1) := by rw [cell_at hz2]; rfl
  have HW4 := Lib.hid hw4
  clear hb2 hx2 hy2 hz2 b4 hr4 hb4 hx4 hy4 HU hT hw4 hs2
  go_enter Tryd.func5, Tryd.ntmps5
  go_upto_region 2 with (fail)
  rw [← hw2]
  clear hw2
  go_upto_region 3 with (go_at_call 14; rw [← HW4.out]; clear HW4; refine (anc_replay _ _ w4 HR.out HB4.out.2).mono ?_; rintro e w5 ⟨v1, rfl, ho, hb⟩; have HO5 := Lib.hid (And.intro ho (And.intro (HB4.out.1.trans (hb.mono HB4.out.1.size)) (HB4.out.2.below hb))); clear ho hb c0 c1 c2 c3)
  obtain ⟨w6, hw6⟩ : ∃ w6, w6 = w5.alloc (.cells #[.int .i64 1, .int .i64 2, .slice v1.p.f.a 0 v1.p.f.c, .slice v1.p.t.a 0 v1.p.t.c, .slice v1.p.s.a 2 v1.p.s.c, .slice v1.p.b.a 1 v1.p.b.c, .slice v1.o.a 1 v1.o.c, .slice v1.d.a 0 v1.d.c] 34) := ⟨_, rfl⟩
  have bw6 : Below w5.heap.size w5 w6 := by rw [hw6]; exact (Below.refl _ _).alloc (Nat.le_refl _) _
  have xw6 : w6.heap[w5.heap.size]? = some (.cells #[.int .i64 1, .int .i64 2, .slice v1.p.f.a 0 v1.p.f.c, .slice v1.p.t.a 0 v1.p.t.c, .slice v1.p.s.a 2 v1.p.s.c, .slice v1.p.b.a 1 v1.p.b.c, .slice v1.o.a 1 v1.o.c, .slice v1.d.a 0 v1.d.c] 34 (0, 0)) := by rw [hw6]; exact heap_alloc_new w5 _
  have e0 : w6.cell? ⟨w5.heap.size, 0, none⟩ = some (.int .i64 1) := by rw [cell_at xw6]; rfl
  have e1 : w6.cell? ⟨w5.heap.size, 1, none⟩ = some (.int .i64 2) := by rw [cell_at xw6]; rfl
  have e2 : w6.cell? ⟨w5.heap.size, 2, none⟩ = some (.slice v1.p.f.a 0 v1.p.f.c) := by rw [cell_at xw6]; rfl
  have e3 : w6.cell? ⟨w5.heap.size, 3, none⟩ = some (.slice v1.p.t.a 0 v1.p.t.c) := by rw [cell_at xw6]; rfl
  have e4 : w6.cell? ⟨w5.heap.size, 4, none⟩ = some (.slice v1.p.s.a 2 v1.p.s.c) := by rw [cell_at xw6]; rfl
  have e5 : w6.cell? ⟨w5.heap.size, 5, none⟩ = some (.slice v1.p.b.a 1 v1.p.b.c) := by rw [cell_at xw6]; rfl
  have e6 : w6.cell? ⟨w5.heap.size, 6, none⟩ = some (.slice v1.o.a 1 v1.o.c) := by rw [cell_at xw6]; rfl
  have e7 : w6.cell? ⟨w5.heap.size, 7, none⟩ = some (.slice v1.d.a 0 v1.d.c) := by rw [cell_at xw6]; rfl
  have HA6 := Lib.hid (And.intro (HO5.out.1.below bw6) (And.intro (HO5.out.2.1.trans (bw6.mono HO5.out.2.1.size)) (HO5.out.2.2.below bw6)))
  rw [← hw6]
  clear hw6 xw6 bw6
  go_upto_region 4 with (go_at_call 11; refine (anc_top v1 w6 HA6.out.1.rd).mono ?_; rintro e w7 ⟨rfl, hb⟩; have HA7 := Lib.hid (And.intro (HA6.out.1.below hb) (And.intro (HA6.out.2.1.trans (hb.mono HA6.out.2.1.size)) (HA6.out.2.2.below hb))); have f0 := keep_cell hb e0; have f1 := keep_cell hb e1; have f2 := keep_cell hb e2; have f3 := keep_cell hb e3; have f4 := keep_cell hb e4; have f5 := keep_cell hb e5; have f6 := keep_cell hb e6; have f7 := keep_cell hb e7; clear e0 e1 e2 e3 e4 e5 e6 e7; clear hb)
  go_upto_region 5 with (go_at_call 7; refine (anc_take6 v1 w7 HA7.out.1.rd HA7.out.2.2).mono ?_; rintro e w8 ⟨v2, rfl, ho, hb⟩; have HA8 := Lib.hid (And.intro ho (And.intro (HA7.out.1.below hb) (And.intro (HA7.out.2.1.trans (hb.mono HA7.out.2.1.size)) (HA7.out.2.2.below hb)))); have e0 := keep_cell hb f0; have e1 := keep_cell hb f1; have e2 := keep_cell hb f2; have e3 := keep_cell hb f3; have e4 := keep_cell hb f4; have e5 := keep_cell hb f5; have e6 := keep_cell hb f6; have e7 := keep_cell hb f7; clear f0 f1 f2 f3 f4 f5 f6 f7; clear hb ho)
  obtain ⟨w9, hw9⟩ : ∃ w9, w9 = w8.alloc (.cells #[.int .i64 1, .int .i64 2, .slice v2.p.f.a 0 v2.p.f.c, .slice v2.p.t.a 0 v2.p.t.c, .slice v2.p.s.a 2 v2.p.s.c, .slice v2.p.b.a 1 v2.p.b.c, .slice v2.o.a 0 v2.o.c, .slice v2.d.a 0 v2.d.c] 34) := ⟨_, rfl⟩
  have bw9 : Below w8.heap.size w8 w9 := by rw [hw9]; exact (Below.refl _ _).alloc (Nat.le_refl _) _
  have xw9 : w9.heap[w8.heap.size]? = some (.cells #[.int .i64 1, .int .i64 2, .slice v2.p.f.a 0 v2.p.f.c, .slice v2.p.t.a 0 v2.p.t.c, .slice v2.p.s.a 2 v2.p.s.c, .slice v2.p.b.a 1 v2.p.b.c, .slice v2.o.a 0 v2.o.c, .slice v2.d.a 0 v2.d.c] 34 (0, 0)) := by rw [hw9]; exact heap_alloc_new w8 _
  have d0 : w9.cell? ⟨w8.heap.size, 0, none⟩ = some (.int .i64 1) := by rw [cell_at xw9]; rfl
  have d1 : w9.cell? ⟨w8.heap.size, 1, none⟩ = some (.int .i64 2) := by rw [cell_at xw9]; rfl
  have d2 : w9.cell? ⟨w8.heap.size, 2, none⟩ = some (.slice v2.p.f.a 0 v2.p.f.c) := by rw [cell_at xw9]; rfl
  have d3 : w9.cell? ⟨w8.heap.size, 3, none⟩ = some (.slice v2.p.t.a 0 v2.p.t.c) := by rw [cell_at xw9]; rfl
  have d4 : w9.cell? ⟨w8.heap.size, 4, none⟩ = some (.slice v2.p.s.a 2 v2.p.s.c) := by rw [cell_at xw9]; rfl
  have d5 : w9.cell? ⟨w8.heap.size, 5, none⟩ = some (.slice v2.p.b.a 1 v2.p.b.c) := by rw [cell_at xw9]; rfl
  have d6 : w9.cell? ⟨w8.heap.size, 6, none⟩ = some (.slice v2.o.a 0 v2.o.c) := by rw [cell_at xw9]; rfl
  have d7 : w9.cell? ⟨w8.heap.size, 7, none⟩ = some (.slice v2.d.a 0 v2.d.c) := by rw [cell_at xw9]; rfl
  have f0 := keep_cell bw9 e0; have f1 := keep_cell bw9 e1; have f2 := keep_cell bw9 e2; have f3 := keep_cell bw9 e3; have f4 := keep_cell bw9 e4; have f5 := keep_cell bw9 e5; have f6 := keep_cell bw9 e6; have f7 := keep_cell bw9 e7; clear e0 e1 e2 e3 e4 e5 e6 e7
  have HA9 := Lib.hid (And.intro (HA8.out.1.below bw9) (And.intro (HA8.out.2.1.below bw9) (And.intro (HA8.out.2.2.1.trans (bw9.mono HA8.out.2.2.1.size)) (HA8.out.2.2.2.below bw9))))
  rw [← hw9]
  clear hw9 xw9 bw9
  go_upto_region 6 with (go_at_call 7; refine (anc_take8 v2 w9 HA9.out.1.rd HA9.out.2.2.2).mono ?_; rintro e w10 ⟨v3, rfl, ho, hb⟩; have HA10 := Lib.hid (And.intro (HA9.out.2.1.below hb) (And.intro (HA9.out.2.2.1.trans (hb.mono HA9.out.2.2.1.size)) ho)); have e0 := keep_cell hb f0; have e1 := keep_cell hb f1; have e2 := keep_cell hb f2; have e3 := keep_cell hb f3; have e4 := keep_cell hb f4; have e5 := keep_cell hb f5; have e6 := keep_cell hb f6; have e7 := keep_cell hb f7; clear f0 f1 f2 f3 f4 f5 f6 f7; clear hb ho)
  obtain ⟨w11, hw11⟩ : ∃ w11, w11 = w10.alloc (.cells #[.int .i64 1, .int .i64 5, .slice v3.p.f.a 0 v3.p.f.c, .slice v3.p.t.a 0 v3.p.t.c, .slice v3.p.s.a 2 v3.p.s.c, .slice v3.p.b.a 1 v3.p.b.c, .slice v3.o.a 0 v3.o.c, .slice v3.d.a 0 v3.d.c] 34) := ⟨_, rfl⟩
  have bw11 : Below w10.heap.size w10 w11 := by rw [hw11]; exact (Below.refl _ _).alloc (Nat.le_refl _) _
  have xw11 : w11.heap[w10.heap.size]? = some (.cells #[.int .i64 1, .int .i64 5, .slice v3.p.f.a 0 v3.p.f.c, .slice v3.p.t.a 0 v3.p.t.c, .slice v3.p.s.a 2 v3.p.s.c, .slice v3.p.b.a 1 v3.p.b.c, .slice v3.o.a 0 v3.o.c, .slice v3.d.a 0 v3.d.c] 34 (0, 0)) := by rw [hw11]; exact heap_alloc_new w10 _
  have i0 : w11.cell? ⟨w10.heap.size, 0, none⟩ = some (.int .i64 1) := by rw [cell_at xw11]; rfl
  have i1 : w11.cell? ⟨w10.heap.size, 1, none⟩ = some (.int .i64 5) := by rw [cell_at xw11]; rfl
  have i2 : w11.cell? ⟨w10.heap.size, 2, none⟩ = some (.slice v3.p.f.a 0 v3.p.f.c) := by rw [cell_at xw11]; rfl
  have i3 : w11.cell? ⟨w10.heap.size, 3, none⟩ = some (.slice v3.p.t.a 0 v3.p.t.c) := by rw [cell_at xw11]; rfl
  have i4 : w11.cell? ⟨w10.heap.size, 4, none⟩ = some (.slice v3.p.s.a 2 v3.p.s.c) := by rw [cell_at xw11]; rfl
  have i5 : w11.cell? ⟨w10.heap.size, 5, none⟩ = some (.slice v3.p.b.a 1 v3.p.b.c) := by rw [cell_at xw11]; rfl
  have i6 : w11.cell? ⟨w10.heap.size, 6, none⟩ = some (.slice v3.o.a 0 v3.o.c) := by rw [cell_at xw11]; rfl
  have i7 : w11.cell? ⟨w10.heap.size, 7, none⟩ = some (.slice v3.d.a 0 v3.d.c) := by rw [cell_at xw11]; rfl
  have f0 := keep_cell bw11 e0; have f1 := keep_cell bw11 e1; have f2 := keep_cell bw11 e2; have f3 := keep_cell bw11 e3; have f4 := keep_cell bw11 e4; have f5 := keep_cell bw11 e5; have f6 := keep_cell bw11 e6; have f7 := keep_cell bw11 e7; clear e0 e1 e2 e3 e4 e5 e6 e7
  have HA11 := Lib.hid (And.intro (HA10.out.1.below bw11) (HA10.out.2.1.trans (bw11.mono HA10.out.2.1.size)))
  rw [← hw11]
  clear hw11 xw11 bw11
  go_wp2_with (go_at_call 10; refine (anc_may v1 w11 HA11.out.1.rd).mono ?_; rintro e w12 ⟨rfl, hb⟩; have HA12 := Lib.hid (HA11.out.2.trans (hb.mono HA11.out.2.size)); clear hb)
  go_ret
  exact ⟨rfl, HA12.out⟩
end Go.Proofs.YtedalanhjhiehaaDoor
