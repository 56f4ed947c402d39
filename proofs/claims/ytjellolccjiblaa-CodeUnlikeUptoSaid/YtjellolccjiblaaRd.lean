import Derived.Test.YtjellolccjiblaaPu
import Derived.Test.YtjellolccjiblaaKb
namespace Go.Proofs.Ytjellolccjiblaa
open Go.RowKit
open YtjellolccjiblaaW.PrintWords (nums own_slice bytesOf print_append_str bytesOf_length Kd)
open PCodeUnlike

/-- what the reader's calls keep -/
structure KG (g : Nat) (w w' : World) : Prop where
  os : w'.os = w.os
  tape : w'.tape = w.tape
  output : w'.output = w.output
  size : w.heap.size ≤ w'.heap.size
  block : ∀ i, i < w.heap.size → i ≠ g → w'.heap[i]? = w.heap[i]?

theorem KG.refl (g : Nat) (w : World) : KG g w w := ⟨rfl, rfl, rfl, Nat.le_refl _, fun _ _ _ => rfl⟩
theorem KG.trans {g : Nat} {a b c : World} (h : KG g a b) (k : KG g b c) : KG g a c :=
  ⟨k.os.trans h.os, k.tape.trans h.tape, k.output.trans h.output, Nat.le_trans h.size k.size, fun i hi hn => (k.block i (Nat.lt_of_lt_of_le hi h.size) hn).trans (h.block i hi hn)⟩
theorem KG.set {g : Nat} {a w : World} (h : KG g a w) (j : Nat) (v : Value) : KG g a (w.setCell ⟨g, j, none⟩ v) :=
  h.trans ⟨rfl, rfl, rfl, by simp [World.setCell], fun i hi hn => Below.heap_setCell _ _ _ _ hn⟩
theorem KG.of_below {g : Nat} {a b : World} (h : Below a.heap.size a b) : KG g a b := ⟨h.os, h.tape, h.output, h.size, fun i hi _ => h.block i hi⟩
theorem KG.drew {g : Nat} {a w : World} (h : KG g a w) : KG g a w.drew := h.trans ⟨rfl, rfl, rfl, Nat.le_refl _, fun _ _ _ => rfl⟩

theorem b1 : bits BinOp.and IntKind.u8 1 127 = 1 := by decide +kernel
theorem b2 : bits BinOp.or IntKind.i64 0 1 = 1 := by decide +kernel
theorem b3 : bits BinOp.and IntKind.u8 128 127 = 0 := by decide +kernel
theorem b4 : bits BinOp.and IntKind.u8 0 127 = 0 := by decide +kernel
theorem b5 : bits BinOp.or IntKind.i64 0 0 = 0 := by decide +kernel
theorem w1 : wrap64 1 = 1 := by decide +kernel
theorem w0 : wrap64 0 = 0 := by decide +kernel

theorem rfail (g : Nat) (v : Value) (e : Int) (w : World) (hg : w.heap[g]? = some (.cells #[v, .int .i64 0] 87 (0, 0))) :
    Calls Try.prog 36 #[.pointer (some ⟨g, 0, none⟩), .int .i64 e] w fun en w' => en = .returned (.tuple #[]) ∧ w'.heap[g]? = some (.cells #[v, .int .i64 e] 87 (0, 0)) ∧ KG g w w' := by
  have g1 : w.cell? ⟨g, 1, none⟩ = some (.int .i64 0) := by rw [cell_at hg]; rfl
  have gf : w.frozen? ⟨g, 1, none⟩ = false := frozen_at hg 1
  have HG := Lib.hid hg
  clear hg
  go_enter Try.func36, Try.ntmps36
  go_wp2
  go_end0
  exact ⟨rfl, heap_set_same HG.out 1 _, (KG.refl _ _).set _ _⟩

theorem rnum_one (g N : Nat) (w : World) (hg : w.heap[g]? = some (.cells #[.slice (some ⟨N, 0, none⟩) 3 3, .int .i64 0] 87 (0, 0))) (hN : w.heap[N]? = some (.cells #[.int .u8 1, .int .u8 128, .int .u8 0] 5 (0, 0))) :
    Calls Try.prog 35 #[.pointer (some ⟨g, 0, none⟩)] w fun e w' => e = .returned (.int .i64 1) ∧ w'.heap[g]? = some (.cells #[.slice (some ⟨N, 1, none⟩) 2 2, .int .i64 0] 87 (0, 0)) ∧ KG g w w' := by
  have g0 : w.cell? ⟨g, 0, none⟩ = some (.slice (some ⟨N, 0, none⟩) 3 3) := by rw [cell_at hg]; rfl
  have g1 : w.cell? ⟨g, 1, none⟩ = some (.int .i64 0) := by rw [cell_at hg]; rfl
  have gf : w.frozen? ⟨g, 0, none⟩ = false := frozen_at hg 0
  have n0 : w.cell? ⟨N, 0, none⟩ = some (.int .u8 1) := by rw [cell_at hN]; rfl
  have HG := Lib.hid hg
  clear hg hN
  have hb1 := b1
  have hb2 := b2
  have hw1 := w1
  go_enter Try.func35, Try.ntmps35
  go_wp2_with fail
  refine wp_loop_rounds 1 ?_
  rw [rounds_succ]
  go_wp2_with fail
  refine bodyPost_ret (results_tmp rfl _ _ _) rfl ?_
  exact ⟨rfl, heap_set_same HG.out 0 _, (KG.refl _ _).set _ _⟩

theorem rnum_two (g N : Nat) (w : World) (hg : w.heap[g]? = some (.cells #[.slice (some ⟨N, 1, none⟩) 2 2, .int .i64 0] 87 (0, 0))) (hN : w.heap[N]? = some (.cells #[.int .u8 1, .int .u8 128, .int .u8 0] 5 (0, 0))) (_hne : N ≠ g) :
    Calls Try.prog 35 #[.pointer (some ⟨g, 0, none⟩)] w fun e w' => e = .returned (.int .i64 0) ∧ w'.heap[g]? = some (.cells #[.slice (some ⟨N, 2, none⟩) 0 0, .int .i64 12] 87 (0, 0)) ∧ KG g w w' := by
  have g0 : w.cell? ⟨g, 0, none⟩ = some (.slice (some ⟨N, 1, none⟩) 2 2) := by rw [cell_at hg]; rfl
  have g1 : w.cell? ⟨g, 1, none⟩ = some (.int .i64 0) := by rw [cell_at hg]; rfl
  have gf : w.frozen? ⟨g, 0, none⟩ = false := frozen_at hg 0
  have n1 : w.cell? ⟨N, 1, none⟩ = some (.int .u8 128) := by rw [cell_at hN]; rfl
  have n2 : w.cell? ⟨N, 2, none⟩ = some (.int .u8 0) := by rw [cell_at hN]; rfl
  have HG := Lib.hid hg
  clear hg hN
  have hb3 := b3
  have hb4 := b4
  have hb5 := b5
  have hw0 := w0
  go_enter Try.func35, Try.ntmps35
  go_wp2_with fail
  refine wp_loop_rounds 2 ?_
  rw [rounds_succ]
  go_wp2_with fail
  rw [rounds_succ]
  go_wp2_with fail
  have hx := heap_set_same (heap_set_same HG.out 0 (.slice (some ⟨N, 2, none⟩) 1 1)) 0 (.slice (some ⟨N, 2, none⟩) 0 0)
  have kx := ((KG.refl g w).set 0 (.slice (some ⟨N, 2, none⟩) 1 1)).set 0 (.slice (some ⟨N, 2, none⟩) 0 0)
  refine (rfail g _ 12 _ hx).mono ?_
  rintro e w2 ⟨rfl, h2, k2⟩
  have H2 := Lib.hid (And.intro h2 (kx.trans k2))
  clear h2 k2 hx kx
  go_wp2
  refine bodyPost_ret (results_tmp rfl _ _ _) rfl ?_
  exact ⟨rfl, H2.out⟩
end Go.Proofs.Ytjellolccjiblaa
