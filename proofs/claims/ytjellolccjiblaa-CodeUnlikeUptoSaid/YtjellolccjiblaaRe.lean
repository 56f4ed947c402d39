import Derived.Test.YtjellolccjiblaaRd
namespace Go.Proofs.Ytjellolccjiblaa
open Go.RowKit
open YtjellolccjiblaaW.PrintWords (nums own_slice bytesOf print_append_str bytesOf_length Kd)
open PCodeUnlike
theorem Try.info3 : (Try.prog.info? 3).map (fun i => (i.zero, i.size, i.bytes)) = some (some (.int .i64 0), 1, 8) := by kernel_rfl

theorem rsize (g N : Nat) (w : World) (hg : w.heap[g]? = some (.cells #[.slice (some ⟨N, 0, none⟩) 3 3, .int .i64 0] 87 (0, 0))) (hN : w.heap[N]? = some (.cells #[.int .u8 1, .int .u8 128, .int .u8 0] 5 (0, 0))) :
    Calls Try.prog 37 #[.pointer (some ⟨g, 0, none⟩)] w fun e w' => e = .returned (.int .i64 1) ∧ w'.heap[g]? = some (.cells #[.slice (some ⟨N, 1, none⟩) 2 2, .int .i64 0] 87 (0, 0)) ∧ KG g w w' := by
  have HG := Lib.hid hg
  have HN := Lib.hid hN
  clear hg hN
  go_enter Try.func37, Try.ntmps37
  go_wp2_with fail
  refine (rnum_one g N w HG.out HN.out).mono ?_
  rintro e w1 ⟨rfl, h1, k1⟩
  have g0 : w1.cell? ⟨g, 0, none⟩ = some (.slice (some ⟨N, 1, none⟩) 2 2) := by rw [cell_at h1]; rfl
  have H1 := Lib.hid (And.intro h1 k1)
  clear h1 k1
  go_wp2
  refine bodyPost_ret (results_tmp rfl _ _ _) rfl ?_
  exact ⟨rfl, H1.out⟩

theorem rgot (g : Nat) (A : Option Addr) (u : Value) (w : World) (hg : w.heap[g]? = some (.cells #[.slice A 0 0, .int .i64 12] 87 (0, 0))) :
    Calls Try.prog 25 #[.pointer (some ⟨g, 0, none⟩), u] w fun e w' => e = .returned (.tuple #[.slice none 0 0, .int .i64 12]) ∧ KG g w w' := by
  have g0 : w.cell? ⟨g, 0, none⟩ = some (.slice A 0 0) := by rw [cell_at hg]; rfl
  have g1 : w.cell? ⟨g, 1, none⟩ = some (.int .i64 12) := by rw [cell_at hg]; rfl
  clear hg
  have hend : Calls Try.prog 33 #[.pointer (some ⟨g, 0, none⟩)] w fun e w' => e = .returned (.int .i64 12) ∧ w' = w := by
    go_enter Try.func33, Try.ntmps33
    go_wp2
    refine bodyPost_ret (results_tmp rfl _ _ _) rfl ?_
    exact ⟨rfl, rfl⟩
  have HE := Lib.hid hend
  clear hend
  go_enter Try.func25, Try.ntmps25
  go_wp2_with fail
  refine HE.out.mono ?_
  rintro e w1 ⟨rfl, rfl⟩
  go_wp2
  refine bodyPost_ret (results_tmp2 rfl _ _ _) rfl ?_
  exact ⟨rfl, KG.refl _ _⟩

theorem rthings (g N : Nat) (w : World) (hg : w.heap[g]? = some (.cells #[.slice (some ⟨N, 0, none⟩) 3 3, .int .i64 0] 87 (0, 0))) (hN : w.heap[N]? = some (.cells #[.int .u8 1, .int .u8 128, .int .u8 0] 5 (0, 0))) :
    Calls Try.prog 34 #[.pointer (some ⟨g, 0, none⟩), .func (.func 35) #[.pointer (some ⟨g, 0, none⟩)] #[]] w fun e w' => (∃ v, e = .returned v) ∧ w'.heap[g]? = some (.cells #[.slice (some ⟨N, 2, none⟩) 0 0, .int .i64 12] 87 (0, 0)) ∧ KG g w w' := by
  have hne : N ≠ g := ne_types hN hg (by decide)
  have HG := Lib.hid hg
  have HN := Lib.hid hN
  clear hg hN
  go_enter Try.func34, Try.ntmps34
  go_wp2_with fail
  refine (rsize g N w HG.out HN.out).mono ?_
  rintro e w1 ⟨rfl, h1, k1⟩
  have g1 : w1.cell? ⟨g, 1, none⟩ = some (.int .i64 0) := by rw [cell_at h1]; rfl
  have H1 := Lib.hid (And.intro h1 k1)
  have HN1 := Lib.hid ((k1.block N (lt_of HN.out) hne).trans HN.out)
  clear h1 k1
  go_wp2_with fail
  refine wp_loop_rounds 2 ?_
  rw [rounds_succ]
  go_wp2_with fail
  refine (rnum_two g N w1 H1.out.1 HN1.out hne).mono ?_
  rintro e w2 ⟨rfl, h2, k2⟩
  have H2 := Lib.hid (And.intro h2 (H1.out.2.trans k2))
  clear h2 k2
  go_wp2_with fail
  have hend : ∀ o o', ((w2.alloc o).alloc o').drew.heap[g]? = some (.cells #[.slice (some ⟨N, 2, none⟩) 0 0, .int .i64 12] 87 (0, 0)) ∧ KG g w ((w2.alloc o).alloc o').drew := by
    intro o o'
    have b : Below w2.heap.size w2 ((w2.alloc o).alloc o') := ((Below.refl _ _).alloc (Nat.le_refl _) o).alloc (by simp) o'
    exact ⟨(b.block g (lt_of H2.out.1)).trans H2.out.1, (H2.out.2.trans (.of_below b)).drew⟩
  have HE := Lib.hid hend
  clear hend
  rw [rounds_succ]
  go_wp2
  refine bodyPost_ret (results_tmp rfl _ _ _) rfl ?_
  exact ⟨⟨_, rfl⟩, HE.out _ _⟩

theorem rints (g N : Nat) (w : World) (hg : w.heap[g]? = some (.cells #[.slice (some ⟨N, 0, none⟩) 3 3, .int .i64 0] 87 (0, 0))) (hN : w.heap[N]? = some (.cells #[.int .u8 1, .int .u8 128, .int .u8 0] 5 (0, 0))) :
    Calls Try.prog 26 #[.pointer (some ⟨g, 0, none⟩)] w fun e w' => (∃ v, e = .returned v) ∧ w'.heap[g]? = some (.cells #[.slice (some ⟨N, 2, none⟩) 0 0, .int .i64 12] 87 (0, 0)) ∧ KG g w w' := by
  have H := Lib.hid (rthings g N w hg hN)
  clear hg hN
  go_enter Try.func26, Try.ntmps26
  go_wp2_with fail
  refine H.out.mono ?_
  rintro e w1 ⟨⟨v, rfl⟩, h1⟩
  have H1 := Lib.hid h1
  clear h1
  go_wp2
  refine bodyPost_ret (results_tmp rfl _ _ _) rfl ?_
  exact ⟨⟨_, rfl⟩, H1.out⟩

theorem getnum (N : Nat) (w : World) (hN : w.heap[N]? = some (.cells #[.int .u8 1, .int .u8 128, .int .u8 0] 5 (0, 0))) :
    Calls Try.prog 10 #[.slice (some ⟨N, 0, none⟩) 3 3] w fun e w' => e = .returned (.tuple #[.slice none 0 0, .int .i64 12]) ∧ Below w.heap.size w w' := by
  obtain ⟨wa, hwa⟩ : ∃ wa, wa = w.alloc (.cells #[.slice (some ⟨N, 0, none⟩) 3 3, .int .i64 0] 87) := ⟨_, rfl⟩
  have hg : wa.heap[w.heap.size]? = some (.cells #[.slice (some ⟨N, 0, none⟩) 3 3, .int .i64 0] 87 (0, 0)) := hwa ▸ heap_alloc_new w _
  have hb : Below w.heap.size w wa := hwa ▸ (Below.refl _ _).alloc (Nat.le_refl _) _
  have hN1 := (hb.block N (lt_of hN)).trans hN
  have H := Lib.hid (rints w.heap.size N wa hg hN1)
  have fin : ∀ w2 w3, KG w.heap.size wa w2 → KG w.heap.size w2 w3 → Below w.heap.size w w3 := fun w2 w3 k2 k3 => by
    have k := k2.trans k3
    exact ⟨k.os.trans hb.os, k.tape.trans hb.tape, k.output.trans hb.output, Nat.le_trans hb.size k.size, fun i hi => (k.block i (Nat.lt_of_lt_of_le hi hb.size) (by omega)).trans (hb.block i hi)⟩
  have HF := Lib.hid fin
  clear hg hb hN1 hN fin
  go_enter Try.func10, Try.ntmps10
  go_wp2_with fail
  rw [← hwa]
  refine H.out.mono ?_
  rintro e w2 ⟨⟨v, rfl⟩, h2, k2⟩
  have H2 := Lib.hid (And.intro h2 k2)
  clear h2 k2
  go_wp2_with fail
  refine (rgot w.heap.size _ v w2 H2.out.1).mono ?_
  rintro e w3 ⟨rfl, k3⟩
  have H3 := Lib.hid (HF.out _ _ H2.out.2 k3)
  clear k3
  go_wp2
  refine bodyPost_ret (results_tmp2 rfl _ _ _) rfl ?_
  exact ⟨rfl, H3.out⟩
end Go.Proofs.Ytjellolccjiblaa
