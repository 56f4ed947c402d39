import Derived.Test.YtedalanhjhiehaaDoorQg
namespace Go.Proofs.YtedalanhjhiehaaDoor
open Go.RowKit
open YtedalanhjhiehaaDoorW.PrintWords (nums ReadsInt rd own_slice own_typed Kd)

theorem own_row {w : World} {B : Nat} {s : SL} {xs : List Int} (h : OwI w B s xs) : ∀ k, (s.v xs.length).ownBlock = some k → B ≤ k := fun k hk => Kd.R_base h.r k hk
theorem drop_any (s : SL) (xs : List Int) (st : Int) (w : World) (h : RdI w s xs) (hl : xs.length ≤ 1000) : Calls Tryd.prog 22 #[s.v xs.length, .int .i64 st] w (ClI w (dropL xs st)) := by
  obtain ⟨w2, hw2⟩ : ∃ w2, w2 = w.alloc (.cells #[.int .i64 st] 3) := ⟨_, rfl⟩
  have hb2 : Below w.heap.size w w2 := by rw [hw2]; exact (Below.refl _ _).alloc (Nat.le_refl _) _
  have hs2 : w2.heap.size = w.heap.size + 1 := by rw [hw2]; simp
  have hP2 : w2.cell? ⟨w.heap.size, 0, none⟩ = some (.int .i64 st) := by
    have := heap_alloc_new w (.cells #[.int .i64 st] 3)
    rw [hw2, cell_at this]; rfl
  have H := Lib.hid (h.below hb2)
  have HB2 := Lib.hid (And.intro hb2 (And.intro hs2 hP2))
  clear h hb2 hs2 hP2
  unfold SL.v
  go_enter Tryd.func22, Tryd.ntmps22
  go_wp2_with (first | (go_at_call 30; rw [← hw2]; refine (cloneI_any s xs w2 H.out hl).mono ?_; rintro e w3 ⟨s3, rfl, ho, hb⟩; have H3 := Lib.hid (And.intro ho hb); clear ho hb) | (go_at_call 33; refine (deleteFunc_any s3 xs st w.heap.size w2.heap.size w3 ((H3.out.2.cell (World.block_lt_of_cell? _ _ HB2.out.2.2)).trans HB2.out.2.2) H3.out.1 hl (by have := HB2.out.2.1; omega)).mono ?_; rintro e w4 ⟨s4, rfl, ho, hg⟩; have H4 := Lib.hid (And.intro ho hg); clear ho hg))
  go_ret
  exact ⟨s4, rfl, H4.out.1.lower HB2.out.1.size, HB2.out.1.trans (((H3.out.2.grown H4.out.2 H3.out.2.size (own_row H3.out.1))).mono HB2.out.1.size)⟩
end Go.Proofs.YtedalanhjhiehaaDoor
