import Derived.Test.YtjellolccjiblaaRa
namespace Go.Proofs.Ytjellolccjiblaa
open Go.RowKit
open YtjellolccjiblaaW.PrintWords (nums own_slice bytesOf print_append_str bytesOf_length Kd)
open PCodeUnlike

theorem done_put {W0 w : World} {O : Nat} {bs : List Int} {bad : Bool} (h : WS w W0.heap.size O bs bad) :
    Calls Try.prog 22 #[.pointer (some ⟨O, 0, none⟩)] w fun e w' => ∃ v : Value, e = .returned (.tuple #[v, .int .i64 (if bad then 12 else 0)]) ∧
      (bad = false → w'.ownsRow W0.heap.size 5 1 v bs.length (nums .u8 bs)) ∧ KW W0.heap.size w w' := by
  obtain ⟨hBO, v, hO, hown⟩ := h
  have c0 : w.cell? ⟨O, 0, none⟩ = some v := by rw [cell_at hO]; rfl
  have c1 : w.cell? ⟨O, 1, none⟩ = some (.bool bad) := by rw [cell_at hO]; rfl
  have HO := Lib.hid hown
  obtain ⟨A, cp, rfl⟩ := own_slice hown
  clear hO hown
  cases bad with
  | true =>
    go_enter Try.func22, Try.ntmps22
    go_wp2
    refine bodyPost_ret (results_tmp2 rfl _ _ _) rfl ?_
    exact ⟨⟨_, rfl⟩, KW.refl _ _⟩
  | false =>
    go_enter Try.func22, Try.ntmps22
    go_wp2
    refine bodyPost_ret (results_tmp2 rfl _ _ _) rfl ?_
    exact ⟨_, rfl, HO.out, KW.refl _ _⟩

theorem catalog_put (l : List S44) (A : Option Addr) (c : Nat) (w : World) (hC : Kd.C k44 w A l.length l) (hlen : l.length ≤ 1048576) (hg : ∀ x ∈ l, good44 x) (hroom : (lenE E44 l).1.length ≤ 70368744177664) :
    Calls Try.prog 6 #[.agg #[.slice A l.length c]] w fun e w' => ∃ v : Value, e = .returned (.tuple #[v, .int .i64 (if (lenE E44 l).2 then 12 else 0)]) ∧
      ((lenE E44 l).2 = false → w'.ownsRow w.heap.size 5 1 v (lenE E44 l).1.length (nums .u8 (lenE E44 l).1)) ∧ Below w.heap.size w w' := by
  have HC := Lib.hid hC
  have HG := Lib.hid hg
  have HR := Lib.hid hroom
  clear hC hg hroom
  go_enter Try.func6, Try.ntmps6
  go_wp2_with fail
  obtain ⟨w3, hw3⟩ : ∃ w3, w3 = ((w.alloc (.cells #[.slice A l.length c] 24)).alloc (.cells #[.slice none 0 0, .bool false] 71)).alloc (.cells #[.pointer (some ⟨w.heap.size + 1, 0, none⟩)] 69) := ⟨_, rfl⟩
  have hO : w3.heap[w.heap.size + 1]? = some (.cells #[.slice none 0 0, .bool false] 71 (0, 0)) := by
    have := heap_alloc_new (w.alloc (.cells #[.slice A l.length c] 24)) (.cells #[.slice none 0 0, .bool false] 71)
    rw [hw3, ((Below.refl _ _).alloc (Nat.le_refl _) _).block _ (by simp)]
    simpa using this
  have hk : KW w.heap.size w w3 := by rw [hw3]; exact (((KW.refl _ _).alloc _).alloc _).alloc _
  have hcap : Cap w3 (w.heap.size + 1) (w.heap.size + 1 + 1) := by
    have := heap_alloc_new ((w.alloc (.cells #[.slice A l.length c] 24)).alloc (.cells #[.slice none 0 0, .bool false] 71)) (.cells #[.pointer (some ⟨w.heap.size + 1, 0, none⟩)] 69)
    rw [Cap, hw3]
    simpa using this
  have hws : WS w3 w.heap.size (w.heap.size + 1) [] false := ⟨by omega, _, hO, World.ownsRow_nil _ _ _ _⟩
  rw [← hw3]
  refine (list44_put (W0 := w) E44 l A c HC.out hcap good44 HG.out hlen service_each ⟨by simpa using HR.out, hk, hws⟩).mono ?_
  rintro e w4 h4
  obtain rfl := h4.1
  have hc4 := (hcap.keep h4.2.2).cell
  have H4 := Lib.hid (And.intro h4.2.1 (hk.trans h4.2.2))
  clear h4 hcap hws hO hk hw3
  go_wp2_with fail
  refine (done_put H4.out.1).mono ?_
  rintro e w5 ⟨v, rfl, h5, h6⟩
  have H5 := Lib.hid (And.intro h5 ((H4.out.2.trans h6).below (Nat.le_refl _)))
  clear h5 h6
  go_wp2
  · refine bodyPost_ret (results_tmp2 rfl _ _ _) rfl ?_
    exact ⟨⟨v, rfl⟩, H5.out.2⟩
  · have hbad : ¬ (lenE E44 l).2 = true := by assumption
    refine bodyPost_ret (results_tmp2 rfl _ _ _) rfl ?_
    exact ⟨v, rfl, by simpa using H5.out.1 (by simpa using hbad), H5.out.2⟩
end Go.Proofs.Ytjellolccjiblaa
