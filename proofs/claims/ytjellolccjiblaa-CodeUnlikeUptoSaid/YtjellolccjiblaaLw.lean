import Derived.Test.YtjellolccjiblaaAm
import Derived.Test.YtjellolccjiblaaAn
import Derived.Test.YtjellolccjiblaaKe
import Derived.Test.YtjellolccjiblaaMe
import Derived.Test.YtjellolccjiblaaOq
namespace Go.Proofs.Ytjellolccjiblaa
open Go.RowKit
open YtjellolccjiblaaW.PrintWords (nums own_slice bytesOf bytesOf_length Kd)
open PCodeUnlike

theorem g64_of (x : S59) (h : good59 x) : g64 (c59 x.f0) := by
  refine ⟨by simpa [c59] using h.1, fun l hl => ?_⟩
  obtain ⟨y, hy, rfl⟩ := List.mem_map.1 hl
  simpa [goodL] using h.2 y hy
theorem g47_of (x : S44) (h : good44 x) : g47 (c44 x) := by
  refine ⟨by simpa [c44] using h.1, fun y hy => ?_⟩
  obtain ⟨z, hz, rfl⟩ := List.mem_map.1 hy
  have hg := h.2 z hz
  refine ⟨by simpa [c52] using hg.1, fun u hu => ?_⟩
  obtain ⟨t, ht, rfl⟩ := List.mem_map.1 hu
  exact g64_of t.f1 (hg.2 t ht)

/-- what a call of made.Catalog leaves -/
theorem made_any (l : List S44) : ∃ r : List S47 × Bool, (r.2 = true → r.1 = l.map c44) ∧ ∀ (A : Option Addr) (c : Nat) (w : World), Kd.C k44 w A l.length l → l.length ≤ c →
    Calls Try.prog 5 #[.agg #[.slice A l.length c]] w fun e w' => ∃ A1 c1, e = .returned (.tuple #[.agg #[.slice A1 r.1.length c1], .bool r.2]) ∧ Kd.C k47 w' A1 r.1.length r.1 ∧ Below w.heap.size w w' := by
  obtain ⟨k, r, h1, h2⟩ := catalog_f l
  refine ⟨r, h2, fun A c w hC hc => (slipwaymade_Catalog.calls k A c l r.1 r.2 w hC hc h1).mono ?_⟩
  rintro e w' ⟨v, rfl, hR, hB⟩
  obtain ⟨A1, c1, rfl, _, hC1⟩ := Kd.R_reads hR
  exact ⟨A1, c1, rfl, hC1, hB⟩

set_option maxHeartbeats 4000000 in
set_option maxRecDepth 100000 in
theorem law_walk (a b : List S44) (A A' : Option Addr) (c c' : Nat) (w : World) (hC : Kd.C k44 w A a.length a) (hC' : Kd.C k44 w A' b.length b) (hc : a.length ≤ c) (hc' : b.length ≤ c') (ha : sumL L44 a ≤ 1048576) (hb : sumL L44 b ≤ 1048576) :
    Calls Try.prog 3 #[.agg #[.slice A a.length c], .agg #[.slice A' b.length c']] w fun e w' => e = .returned (.bool true) ∧ Below w.heap.size w w' := by
  obtain ⟨ra, hra, Ma⟩ := made_any a
  obtain ⟨rb, hrb, Mb⟩ := made_any b
  obtain ⟨la, ga, na⟩ := goods_of a ha
  obtain ⟨lb, gb, nb⟩ := goods_of b hb
  obtain ⟨w2, hw2⟩ : ∃ w2, w2 = (w.alloc (.cells #[.slice A a.length c] 24)).alloc (.cells #[.slice A' b.length c'] 24) := ⟨_, rfl⟩
  have hb2 : Below w.heap.size w w2 := by rw [hw2]; exact ((Below.refl _ _).alloc (Nat.le_refl _) _).alloc (by simp) _
  have x2 : w2.heap[w.heap.size]? = some (.cells #[.slice A a.length c] 24 (0, 0)) := by
    rw [hw2, ((Below.refl _ _).alloc (Nat.le_refl _) _).block _ (by simp)]
    exact heap_alloc_new w _
  have x3 : w2.heap[w.heap.size + 1]? = some (.cells #[.slice A' b.length c'] 24 (0, 0)) := by
    have := heap_alloc_new (w.alloc (.cells #[.slice A a.length c] 24)) (.cells #[.slice A' b.length c'] 24)
    rw [hw2]; simpa using this
  have HM := Lib.hid (And.intro hra (And.intro hrb (And.intro Ma Mb)))
  have HG := Lib.hid (And.intro la (And.intro ga (And.intro na (And.intro lb (And.intro gb nb)))))
  have HX := Lib.hid (And.intro x2 (And.intro x3 (And.intro hb2 (And.intro hC (And.intro hC' (And.intro hc hc'))))))
  clear hra hrb Ma Mb la ga na lb gb nb x2 x3 hb2 hC hC' hc hc' ha hb
  go_enter Try.func3, Try.ntmps3
  go_wp2_with fail
  rw [← hw2]
  refine (anchor_ok w2).mono ?_
  rintro e w3 ⟨rfl, hb3⟩
  have k2 : w3.cell? ⟨w.heap.size, 0, none⟩ = some (.slice A a.length c) := by rw [cell_at ((hb3.block _ (lt_of HX.out.1)).trans HX.out.1)]; rfl
  have HB3 := Lib.hid hb3
  have HB3w := Lib.hid (HX.out.2.2.1.trans (hb3.mono HX.out.2.2.1.size))
  clear hb3 hw2
  go_wp2_with fail
  refine (HM.out.2.2.1 A c w3 (Kd.C_below HX.out.2.2.2.1 HB3w.out) HX.out.2.2.2.2.2.1).mono ?_
  rintro e w4 ⟨A1, c1, rfl, hR1, hb4⟩
  obtain ⟨w5, hw5⟩ : ∃ w5, w5 = w4.alloc (.cells #[.slice A1 ra.1.length c1] 28) := ⟨_, rfl⟩
  have hb45 : Below w4.heap.size w4 w5 := hw5 ▸ (Below.refl _ _).alloc (Nat.le_refl _) _
  have x5 : w5.heap[w4.heap.size]? = some (.cells #[.slice A1 ra.1.length c1] 28 (0, 0)) := hw5 ▸ heap_alloc_new w4 _
  have hb5 := hb4.trans (hb45.mono hb4.size)
  have hR1' := Kd.C_below hR1 hb45
  have k3 : w5.cell? ⟨w.heap.size + 1, 0, none⟩ = some (.slice A' b.length c') := by rw [cell_at ((hb5.block _ (Nat.lt_of_lt_of_le (lt_of HX.out.2.1) HB3.out.size)).trans ((HB3.out.block _ (lt_of HX.out.2.1)).trans HX.out.2.1))]; rfl
  rw [hw5] at k3
  have HW5 := Lib.hid hw5
  have H5 := Lib.hid (And.intro x5 (And.intro hR1' (HB3w.out.trans (hb5.mono HB3w.out.size))))
  have H25 := Lib.hid (HB3.out.trans (hb5.mono HB3.out.size))
  clear hb4 hR1 hb45 x5 hb5 hR1' hw5 k2
  go_wp2_with fail
  rw [← HW5.out]
  refine (HM.out.2.2.2 A' c' w5 (Kd.C_below HX.out.2.2.2.2.1 H5.out.2.2) HX.out.2.2.2.2.2.2).mono ?_
  rintro e w6 ⟨A2, c2, rfl, hR2, hb6⟩
  obtain ⟨w7, hw7⟩ : ∃ w7, w7 = w6.alloc (.cells #[.slice A2 rb.1.length c2] 28) := ⟨_, rfl⟩
  have hb67 : Below w6.heap.size w6 w7 := hw7 ▸ (Below.refl _ _).alloc (Nat.le_refl _) _
  have x7 : w7.heap[w6.heap.size]? = some (.cells #[.slice A2 rb.1.length c2] 28 (0, 0)) := hw7 ▸ heap_alloc_new w6 _
  have hb57 := hb6.trans (hb67.mono hb6.size)
  have hR2' := Kd.C_below hR2 hb67
  have k4 : w7.cell? ⟨w.heap.size, 0, none⟩ = some (.slice A a.length c) := by rw [cell_at (((H25.out.trans (hb57.mono H25.out.size)).block _ (lt_of HX.out.1)).trans HX.out.1)]; rfl
  rw [hw7] at k4
  have HW7 := Lib.hid hw7
  have H7 := Lib.hid (And.intro x7 (And.intro hR2' (H5.out.2.2.trans (hb57.mono H5.out.2.2.size))))
  have H57 := Lib.hid hb57
  have H27 := Lib.hid (H25.out.trans (hb57.mono H25.out.size))
  clear hb6 hR2 hb67 x7 hb57 hR2' hw7 k3
  go_wp2_with fail
  rw [← HW7.out]
  obtain ⟨ea, hea⟩ : ∃ ea : Int, ea = (if (lenE E44 a).2 then 12 else 0) := ⟨_, rfl⟩
  obtain ⟨eb, heb⟩ : ∃ eb : Int, eb = (if (lenE E44 b).2 then 12 else 0) := ⟨_, rfl⟩
  have hea0 : ea = 0 → (lenE E44 a).2 = false := fun h => by
    rw [hea] at h
    by_cases hh : (lenE E44 a).2 = true
    · rw [if_pos hh] at h; omega
    · simpa using hh
  have heb0 : eb = 0 → (lenE E44 b).2 = false := fun h => by
    rw [heb] at h
    by_cases hh : (lenE E44 b).2 = true
    · rw [if_pos hh] at h; omega
    · simpa using hh
  have HE := Lib.hid (And.intro hea0 heb0)
  clear hea0 heb0
  refine (catalog_put a A c w7 (Kd.C_below HX.out.2.2.2.1 H7.out.2.2) HG.out.1 HG.out.2.1 HG.out.2.2.1).mono ?_
  rintro e w8 ⟨p, rfl, hp, hb8⟩
  rw [← hea]
  have k5 : w8.cell? ⟨w.heap.size + 1, 0, none⟩ = some (.slice A' b.length c') := by rw [cell_at (((H27.out.trans (hb8.mono H27.out.size)).block _ (lt_of HX.out.2.1)).trans HX.out.2.1)]; rfl
  have H8 := Lib.hid (And.intro hp (And.intro hb8 (H7.out.2.2.trans (hb8.mono H7.out.2.2.size))))
  have HEB := Lib.hid heb
  clear hp hb8 k4 hea heb
  go_wp2_with fail
  refine (catalog_put b A' c' w8 (Kd.C_below HX.out.2.2.2.2.1 H8.out.2.2) HG.out.2.2.2.1 HG.out.2.2.2.2.1 HG.out.2.2.2.2.2).mono ?_
  rintro e w9 ⟨q, rfl, hq, hb9⟩
  rw [← HEB.out]
  have H9 := Lib.hid (And.intro hq (And.intro hb9 (H8.out.2.2.trans (hb9.mono H8.out.2.2.size))))
  clear hq hb9 k5
  have hret : Below w.heap.size w w9 := H9.out.2.2
  have HRET := Lib.hid hret
  clear hret
  obtain ⟨ra1, ra2⟩ := ra
  obtain ⟨rb1, rb2⟩ := rb
  cases ra2 with
  | false =>
    go_wp2
    refine bodyPost_ret (results_tmp rfl _ _ _) rfl ?_
    exact ⟨rfl, HRET.out⟩
  | true =>
    cases rb2 with
    | false =>
      go_wp2
      refine bodyPost_ret (results_tmp rfl _ _ _) rfl ?_
      exact ⟨rfl, HRET.out⟩
    | true =>
      by_cases e1 : ea = 0
      · by_cases e2 : eb = 0
        · have q1 := HE.out.1 e1
          have q2 := HE.out.2 e2
          subst e1 e2
          obtain ⟨P, cp, rfl, hp1, hP⟩ := own_C (H8.out.1 q1)
          obtain ⟨Q, cq, rfl, hq1, hQ⟩ := own_C (H9.out.1 q2)
          have hP9 := Kd.C_below hP H9.out.2.1
          have hra : ra1 = a.map c44 := HM.out.1 rfl
          have hrb : rb1 = b.map c44 := HM.out.2.1 rfl
          have hX := Kd.C_below H5.out.2.1 (H57.out.trans ((H8.out.2.1.trans (H9.out.2.1.mono H8.out.2.1.size)).mono H57.out.size))
          have hY := Kd.C_below H7.out.2.1 (H8.out.2.1.trans (H9.out.2.1.mono H8.out.2.1.size))
          have hc5 := ((H57.out.trans ((H8.out.2.1.trans (H9.out.2.1.mono H8.out.2.1.size)).mono H57.out.size)).block _ (lt_of H5.out.1)).trans H5.out.1
          have hc7 := ((H8.out.2.1.trans (H9.out.2.1.mono H8.out.2.1.size)).block _ (lt_of H7.out.1)).trans H7.out.1
          obtain ⟨b0, hb0⟩ : ∃ b0 : Bool, b0 = decide ((lenE E44 a).1 = (lenE E44 b).1) := ⟨_, rfl⟩
          have S7 := Lib.hid (fun (wq : World) (hw : Below w9.heap.size w9 wq) => (slipwayref11_Same.calls _ P cp (lenE E44 a).1 Q cq (lenE E44 b).1 b0 wq (Kd.C_below hP9 hw) hp1 (Kd.C_below hQ hw) hq1 (hb0 ▸ same_law (lenE E44 a).1 (lenE E44 b).1 (by have := HG.out.2.2.1; omega))).mono (fun e w' hh => (⟨hh.1, by obtain ⟨⟨n, rfl⟩⟩ := hh.2; exact hw.trans (below_drewN' _ _)⟩ : e = .returned (.bool b0) ∧ Below w9.heap.size w9 w')))
          have S8 := Lib.hid (fun (wq : World) (hw : Below w9.heap.size w9 wq) => (alike_eq ra1 rb1 A1 A2 c1 c2 ra1.length rb1.length wq rfl rfl (Kd.C_below hX hw) (Kd.C_below hY hw) (by rw [hra]; simpa using HG.out.1) (by rw [hrb]; simpa using HG.out.2.2.2.1)
            (by rw [hra]; intro x hx; obtain ⟨y, hy, rfl⟩ := List.mem_map.1 hx; exact g47_of y (HG.out.2.1 y hy)) (by rw [hrb]; intro x hx; obtain ⟨y, hy, rfl⟩ := List.mem_map.1 hx; exact g47_of y (HG.out.2.2.2.2.1 y hy))).mono (fun e w' hh => (by
              obtain ⟨bb, rfl, hbb, hq⟩ := hh
              have : bb = b0 := by
                have h1 : ra1 = rb1 ↔ (lenE E44 a).1 = (lenE E44 b).1 := by
                  rw [code_told q1 q2, hra, hrb]
                  exact ⟨fun h => map_inj c44_inj h, fun h => by rw [h]⟩
                rw [h1] at hbb
                rw [hb0]
                by_cases hh : (lenE E44 a).1 = (lenE E44 b).1
                · rw [hbb.2 hh]; simp [hh]
                · have : bb = false := by
                    cases bb with
                    | true => exact absurd (hbb.1 rfl) hh
                    | false => rfl
                  rw [this]; simp [hh]
              exact ⟨by rw [this], hw.trans (hq.mono hw.size)⟩ : e = .returned (.bool b0) ∧ Below w9.heap.size w9 w')))
          have K57 := Lib.hid (fun (wq : World) (hw : Below w9.heap.size w9 wq) => (And.intro (by rw [cell_at ((hw.block _ (lt_of hc5)).trans hc5)]; rfl) (by rw [cell_at ((hw.block _ (lt_of hc7)).trans hc7)]; rfl) : wq.cell? ⟨w4.heap.size, 0, none⟩ = some (.slice A1 ra1.length c1) ∧ wq.cell? ⟨w6.heap.size, 0, none⟩ = some (.slice A2 rb1.length c2)))
          have hrefl := (Below.refl w9.heap.size w9)
          have m5 := (K57.out _ hrefl).1
          have m7 := (K57.out _ hrefl).2
          clear hP hQ hP9 hra hrb hX hY hc5 hc7 hb0 q1 q2 hp1 hq1 hrefl
          go_wp2_with fail
          go_region_with (first
            | (go_at_call 7; refine (S7.out _ ?_).mono ?_; (first | assumption | exact (Below.refl _ _).drew); rintro e wq ⟨rfl, hq⟩; have l5 := (K57.out _ hq).1; have l7 := (K57.out _ hq).2)
            | (go_at_call 8; refine (S8.out _ ?_).mono ?_; (first | assumption | exact (Below.refl _ _).drew); rintro e wq ⟨rfl, hq⟩; have l5 := (K57.out _ hq).1; have l7 := (K57.out _ hq).2))
          all_goals go_wp2
          all_goals refine bodyPost_ret (results_tmp rfl _ _ _) rfl ?_
          all_goals exact ⟨rfl, HRET.out.trans ((by assumption : Below w9.heap.size w9 _).mono HRET.out.size)⟩
        · go_wp2
          refine bodyPost_ret (results_tmp rfl _ _ _) rfl ?_
          exact ⟨rfl, HRET.out⟩
      · go_wp2
        refine bodyPost_ret (results_tmp rfl _ _ _) rfl ?_
        exact ⟨rfl, HRET.out⟩
end Go.Proofs.Ytjellolccjiblaa
