import Derived.Test.YtjellolccjiblaaRe
import Derived.Test.YtjellolccjiblaaSa
namespace Go.Proofs.Ytjellolccjiblaa
open Go.RowKit
open YtjellolccjiblaaW.PrintWords (nums own_slice bytesOf print_append_str bytesOf_length Kd)
open PCodeUnlike

theorem own_C {w : World} {B e : Nat} {k : IntKind} {v : Value} {xs : List Int} (h : w.ownsRow B e 1 v xs.length (nums k xs)) : ∃ A c, v = .slice A xs.length c ∧ xs.length ≤ c ∧ Kd.C (Kd.int k) w A xs.length xs := by
  obtain ⟨A, c, h1, h2, h3⟩ := YtjellolccjiblaaW.PrintWords.own_reads_of_le (enc := fun b => Value.int k b) (d := 0) h
  exact ⟨A, c, h1, h2, YtjellolccjiblaaW.PrintWords.Kd.C_of_reads h3⟩
theorem lit_own (w : World) (e : Nat) (k : IntKind) (xs : List Int) (n : Nat) (hn : xs.length = n) (hl : n ≤ maxLen) : (w.alloc (.cells (nums k xs).toArray e)).ownsRow w.heap.size e 1 (.slice (some ⟨w.heap.size, 0, none⟩) n n) n (nums k xs) :=
  ⟨by simp [nums, hn], .inr ⟨w.heap.size, n, (nums k xs).toArray, rfl, Nat.le_refl _, heap_alloc_new w _, Nat.le_refl _, hl, by simp [nums, hn], by simp only [Nat.mul_one]; exact List.take_of_length_le (by simp [nums, hn])⟩⟩

def E3 (x : Int) : List Int × Bool := numsE [x]
theorem int_each {W0 : World} {O P : Nat} : Each W0 O P 32 (fun x v => v = .int .i64 x) E3 := by
  rintro x v w bs bad rfl hP h
  have H := Lib.hid h
  have hc := hP.cell
  clear h hP
  go_enter Try.func32, Try.ntmps32
  go_wp2_with fail
  refine (num_put [x] (by simp) H.out 1 rfl _ rfl _ rfl).mono ?_
  rintro e w2 h2
  obtain rfl := h2.1
  have H2 := Lib.hid h2
  clear h2
  go_wp2
  go_end0
  exact H2.out
theorem ints_put {W0 w : World} {O : Nat} {bs : List Int} {bad : Bool} (xs : List Int) (A : Option Addr) (c : Nat) (hC : Kd.C (Kd.int .i64) W0 A xs.length xs) (hlen : xs.length ≤ 1048576) (h : St W0 w O bs bad (lenE E3 xs)) :
    Calls Try.prog 24 #[.pointer (some ⟨O, 0, none⟩), .slice A xs.length c] w (Wrote W0 w O bs bad (lenE E3 xs)) := by
  have H := Lib.hid h
  have HC := Lib.hid hC
  have HB := Lib.hid (heap_alloc_new w (.cells #[.pointer (some ⟨O, 0, none⟩)] 69))
  clear h hC
  go_enter Try.func24, Try.ntmps24
  go_wp2_with fail
  refine (list3_put E3 xs A c HC.out HB.out hlen int_each (H.out.alloc _)).mono ?_
  rintro e w2 h2
  obtain rfl := h2.1
  have H2 := Lib.hid (h2.of ((KW.refl _ _).alloc _))
  clear h2
  go_wp2
  go_end0
  exact H2.out
theorem numbers_put (xs : List Int) (A : Option Addr) (c : Nat) (w : World) (hC : Kd.C (Kd.int .i64) w A xs.length xs) (hlen : xs.length ≤ 1048576) (hroom : (lenE E3 xs).1.length ≤ 70368744177664) (hok : (lenE E3 xs).2 = false) :
    Calls Try.prog 9 #[.slice A xs.length c] w fun e w' => ∃ v : Value, e = .returned (.tuple #[v, .int .i64 0]) ∧ w'.ownsRow w.heap.size 5 1 v (lenE E3 xs).1.length (nums .u8 (lenE E3 xs).1) ∧ Below w.heap.size w w' := by
  have HC := Lib.hid hC
  have HR := Lib.hid hroom
  have HOK := Lib.hid hok
  clear hC hroom hok
  go_enter Try.func9, Try.ntmps9
  go_wp2_with fail
  obtain ⟨w3, hw3⟩ : ∃ w3, w3 = w.alloc (.cells #[.slice none 0 0, .bool false] 71) := ⟨_, rfl⟩
  have hO : w3.heap[w.heap.size]? = some (.cells #[.slice none 0 0, .bool false] 71 (0, 0)) := by rw [hw3]; exact heap_alloc_new w _
  have hk : KW w.heap.size w w3 := by rw [hw3]; exact (KW.refl _ _).alloc _
  have hws : WS w3 w.heap.size w.heap.size [] false := ⟨Nat.le_refl _, _, hO, World.ownsRow_nil _ _ _ _⟩
  rw [← hw3]
  refine (ints_put (W0 := w) xs A c HC.out hlen ⟨by simpa using HR.out, hk, hws⟩).mono ?_
  rintro e w4 h4
  obtain rfl := h4.1
  have H4 := Lib.hid (And.intro h4.2.1 (hk.trans h4.2.2))
  clear h4 hws hO hk hw3
  go_wp2_with fail
  refine (done_put H4.out.1).mono ?_
  rintro e w5 ⟨v, rfl, h5, h6⟩
  have H5 := Lib.hid (And.intro h5 ((H4.out.2.trans h6).below (Nat.le_refl _)))
  have hbad := HOK.out
  clear h5 h6
  go_wp2
  refine bodyPost_ret (results_tmp2 rfl _ _ _) rfl ?_
  exact ⟨v, rfl, by simpa using H5.out.1 (by simpa using hbad), H5.out.2⟩

theorem anchor_bytes : lenE E3 [1, 128] = ([2, 1, 128, 1], false) := by
  simp [lenE, listE, E3, numsE, seqE, vi_small, vi_big, mostN]

theorem anchor_ok (w : World) : Calls Try.prog 4 #[] w fun e w' => e = .returned (.bool true) ∧ Below w.heap.size w w' := by
  have hl : (w.alloc (.cells #[.int .i64 1, .int .i64 128] 3)).ownsRow w.heap.size 3 1 (.slice (some ⟨w.heap.size, 0, none⟩) 2 2) 2 (nums .i64 [1, 128]) := lit_own w 3 .i64 [1, 128] 2 rfl (by decide)
  obtain ⟨A, c, e1, _, hC⟩ := own_C (xs := [1, 128]) hl
  injection e1 with e1 _ e3
  subst e1 e3
  obtain ⟨wa, hwa⟩ : ∃ wa, wa = w.alloc (.cells #[.int .i64 1, .int .i64 128] 3) := ⟨_, rfl⟩
  have hba : Below w.heap.size w wa := hwa ▸ (Below.refl _ _).alloc (Nat.le_refl _) _
  rw [← hwa] at hC
  have H := Lib.hid (numbers_put [1, 128] _ 2 wa hC (by simp) (by rw [anchor_bytes]; simp) (by rw [anchor_bytes]))
  rw [anchor_bytes] at H
  have HBA := Lib.hid hba
  clear hl hC hba
  go_enter Try.func4, Try.ntmps4
  go_wp2_with fail
  rw [← hwa]
  refine H.out.mono ?_
  rintro e w1 ⟨v, rfl, h1, hb1⟩
  have H1 := Lib.hid (And.intro h1 (HBA.out.trans (hb1.mono HBA.out.size)))
  clear h1 hb1
  go_wp2_with fail
  obtain ⟨wb, hwb⟩ : ∃ wb, wb = w1.alloc (.cells #[.int .u8 1, .int .u8 128, .int .u8 0] 5) := ⟨_, rfl⟩
  have hbb : Below w1.heap.size w1 wb := hwb ▸ (Below.refl _ _).alloc (Nat.le_refl _) _
  rw [← hwb]
  refine (getnum w1.heap.size wb (hwb ▸ heap_alloc_new w1 _)).mono ?_
  rintro e w2 ⟨rfl, hb2⟩
  have hb12 := hbb.trans (hb2.mono hbb.size)
  obtain ⟨A, c, rfl, hle, hC⟩ := own_C H1.out.1
  obtain ⟨wc, hwc⟩ : ∃ wc, wc = w2.alloc (.cells #[.int .u8 2, .int .u8 1, .int .u8 128, .int .u8 1] 5) := ⟨_, rfl⟩
  have hbc : Below w2.heap.size w2 wc := hwc ▸ (Below.refl _ _).alloc (Nat.le_refl _) _
  have hC2 := Kd.C_below hC (hb12.trans (hbc.mono hb12.size))
  have hl2 : wc.ownsRow w2.heap.size 5 1 (.slice (some ⟨w2.heap.size, 0, none⟩) 4 4) 4 (nums .u8 [2, 1, 128, 1]) := hwc ▸ lit_own w2 5 .u8 [2, 1, 128, 1] 4 rfl (by decide)
  obtain ⟨A', c', e1, _, hC'⟩ := own_C (xs := [2, 1, 128, 1]) hl2
  injection e1 with e1 _ e3
  subst e1 e3
  have HS := Lib.hid (slipwayref11_Same.calls 5 A c [2, 1, 128, 1] _ 4 [2, 1, 128, 1] true wc hC2 hle hC' (by simp) (same_law [2, 1, 128, 1] [2, 1, 128, 1] (by simp)))
  have H2 := Lib.hid (H1.out.2.trans ((hb12.trans (hbc.mono hb12.size)).mono H1.out.2.size))
  clear hC hC2 hl2 hC' hb2 hbb hb12 hbc hwb
  go_wp2_with fail
  rw [← hwc]
  refine HS.out.mono ?_
  rintro e w4 ⟨rfl, ⟨⟨n, rfl⟩⟩⟩
  have HF := Lib.hid (hwc ▸ (H2.out.trans (below_drewN' wc n)) : Below w.heap.size w ((w2.alloc (.cells #[.int .u8 2, .int .u8 1, .int .u8 128, .int .u8 1] 5)).drewN n))
  go_wp2
  refine bodyPost_ret (results_tmp rfl _ _ _) rfl ?_
  exact ⟨rfl, HF.out⟩
end Go.Proofs.Ytjellolccjiblaa
