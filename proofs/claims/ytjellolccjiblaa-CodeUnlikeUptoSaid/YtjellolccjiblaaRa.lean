import Derived.Test.YtjellolccjiblaaCo
namespace Go.Proofs.Ytjellolccjiblaa
open Go.RowKit
open YtjellolccjiblaaW.PrintWords (nums own_slice bytesOf print_append_str bytesOf_length Kd)
open PCodeUnlike

def goodL (x : List S93) : Prop := x.length ≤ 1048576
def E90 (x : List S93) : List Int × Bool := lenE E93 x
def good59 (x : S59) : Prop := x.f0.length ≤ 1048576 ∧ ∀ y ∈ x.f0, goodL y
def E59 (x : S59) : List Int × Bool := lenE E90 x.f0

theorem comps_each {W0 : World} {O P : Nat} : Each W0 O P 28 (fun x v => goodL x ∧ ∃ A1 c1, v = .slice A1 x.length c1 ∧ k93.C W0 A1 x.length x) E90 := by
  rintro x v w bs bad ⟨hg, A1, c1, rfl, hK⟩ hP h
  have H := Lib.hid h
  have hc := hP.cell
  have HP := Lib.hid hP
  have HK := Lib.hid hK
  have HG := Lib.hid hg
  clear h hP hK hg
  go_enter Try.func28, Try.ntmps28
  go_wp2_with fail
  refine (list93_put E93 x A1 c1 HK.out HP.out (fun _ => True) (fun _ _ => trivial) HG.out (comp_each _) H.out).mono ?_
  rintro e w2 h2
  obtain rfl := h2.1
  have H2 := Lib.hid h2
  clear h2
  go_wp2
  go_end0
  exact H2.out

theorem ranged_put {W0 w : World} {O : Nat} {bs : List Int} {bad : Bool} (x : S59) (cs : List Value) (hK : k59.K W0 x cs) (hg : good59 x) (h : St W0 w O bs bad (E59 x)) :
    Calls Try.prog 21 #[.pointer (some ⟨O, 0, none⟩), .agg cs.toArray] w (Wrote W0 w O bs bad (E59 x)) := by
  obtain ⟨A0, c0, rfl, _, hC⟩ := k59_open hK
  have H := Lib.hid h
  have HC := Lib.hid hC
  have HG := Lib.hid hg
  clear h hC hg hK
  go_enter Try.func21, Try.ntmps21
  go_wp2_with fail
  have hcap : Cap ((w.alloc (.cells #[.pointer (some ⟨O, 0, none⟩)] 69)).alloc (.cells #[.slice A0 x.f0.length c0] 59)) O w.heap.size := Cap.keep (B := W0.heap.size) (heap_alloc_new w _) ((KW.refl _ _).alloc _)
  refine (list90_put E90 x.f0 A0 c0 HC.out hcap goodL HG.out.2 HG.out.1 comps_each ((H.out.alloc _).alloc _)).mono ?_
  rintro e w2 h2
  obtain rfl := h2.1
  have H2 := Lib.hid (h2.of (((KW.refl _ _).alloc _).alloc _))
  clear h2
  go_wp2
  go_end0
  exact H2.out

def good61 (x : S61) : Prop := good59 x.f1
def E61 (x : S61) : List Int × Bool := seqE (numsE [x.f0]) (E59 x.f1)

theorem need_each {W0 : World} {O P : Nat} : Each W0 O P 20 (fun x v => good61 x ∧ ∃ cs, v = .agg cs.toArray ∧ k61.K W0 x cs) E61 := by
  rintro x v w bs bad ⟨hg, cs, rfl, hK⟩ hP h
  obtain ⟨_, cs2, hcs, hK0, hK1⟩ := hK
  obtain rfl := hK0
  obtain ⟨A1, c1, rfl, _, _⟩ := k59_open hK1
  obtain rfl := hcs
  have H := Lib.hid h
  have hc : ∀ o, (w.alloc o).cell? ⟨P, 0, none⟩ = some (.pointer (some ⟨O, 0, none⟩)) := fun o => pw_cell_alloc w o _ hP.cell
  have HP := Lib.hid hP
  have HK := Lib.hid hK1
  have HG := Lib.hid hg
  clear h hP hK1 hg
  simp only [List.cons_append, List.nil_append]
  go_enter Try.func20, Try.ntmps20
  go_wp2_with fail
  obtain ⟨wa, hwa⟩ : ∃ wa, wa = w.alloc (.cells #[.int .i64 x.f0, .slice A1 x.f1.f0.length c1] 61) := ⟨_, rfl⟩
  have Ha := Lib.hid (hwa ▸ (H.out.alloc _ : St W0 (w.alloc (.cells #[.int .i64 x.f0, .slice A1 x.f1.f0.length c1] 61)) O bs bad _))
  have hb : wa.heap[w.heap.size]? = some (.cells #[.int .i64 x.f0, .slice A1 x.f1.f0.length c1] 61 (0, 0)) := hwa ▸ heap_alloc_new w _
  have hk : KW W0.heap.size w wa := hwa ▸ (KW.refl _ _).alloc _
  rw [← hwa]
  refine (num_put [x.f0] (by simp) Ha.out.fst 1 rfl _ rfl _ (by rw [hwa]; simp)).mono ?_
  rintro e w1 h1
  obtain rfl := h1.1
  have hb1 := h1.2.2.keep hb (by decide)
  have c1' : w1.cell? ⟨w.heap.size, 1, none⟩ = some (.slice A1 x.f1.f0.length c1) := by rw [cell_at hb1]; rfl
  have hc1 := ((HP.out.keep hk).keep h1.2.2).cell
  have H1 := Lib.hid (h1.of hk)
  have HS := Lib.hid (Ha.out.snd h1)
  clear h1 hb hwa hk hb1 hc
  go_wp2_with fail
  refine (ranged_put x.f1 _ HK.out HG.out HS.out).mono ?_
  rintro e w2 h2
  obtain rfl := h2.1
  have H2 := Lib.hid (H1.out.seq h2)
  clear h2
  go_wp2
  go_end0
  exact H2.out

def good52 (x : S52) : Prop := x.f2.length ≤ 1048576 ∧ ∀ y ∈ x.f2, good61 y
def E52 (x : S52) : List Int × Bool := seqE (E49 x.f0) (seqE (numsE [x.f1]) (lenE E61 x.f2))

theorem release_each {W0 : World} {O P : Nat} : Each W0 O P 16 (fun x v => good52 x ∧ ∃ cs, v = .agg cs.toArray ∧ k52.K W0 x cs) E52 := by
  rintro ⟨⟨x0, x1, x2, x3⟩, x4, x5⟩ v w bs bad ⟨hg, cs, rfl, hK⟩ hP h
  obtain ⟨A1, c1, rfl, _, hC⟩ := k52_open hK
  have H := Lib.hid h
  have hc : ∀ o, (w.alloc o).cell? ⟨P, 0, none⟩ = some (.pointer (some ⟨O, 0, none⟩)) := fun o => pw_cell_alloc w o _ hP.cell
  have HP := Lib.hid hP
  have HC := Lib.hid hC
  have HG := Lib.hid hg
  clear h hP hK hg hC
  simp only []
  go_enter Try.func16, Try.ntmps16
  go_wp2_with fail
  obtain ⟨wa, hwa⟩ : ∃ wa, wa = w.alloc (.cells #[.int .i64 x0, .int .i64 x1, .int .i64 x2, .string x3, .int .i64 x4, .slice A1 x5.length c1] 52) := ⟨_, rfl⟩
  have Ha := Lib.hid (hwa ▸ (H.out.alloc _ : St W0 (w.alloc (.cells #[.int .i64 x0, .int .i64 x1, .int .i64 x2, .string x3, .int .i64 x4, .slice A1 x5.length c1] 52)) O bs bad _))
  have hb : wa.heap[w.heap.size]? = some (.cells #[.int .i64 x0, .int .i64 x1, .int .i64 x2, .string x3, .int .i64 x4, .slice A1 x5.length c1] 52 (0, 0)) := hwa ▸ heap_alloc_new w _
  have hk : KW W0.heap.size w wa := hwa ▸ (KW.refl _ _).alloc _
  rw [← hwa]
  refine (version_put x0 x1 x2 x3 Ha.out.fst).mono ?_
  rintro e w1 h1
  obtain rfl := h1.1
  obtain ⟨b, hbe⟩ : ∃ b, b = w.heap.size := ⟨_, rfl⟩
  rw [← hbe] at hb ⊢
  have hb1 := h1.2.2.keep hb (by decide)
  have c4 : w1.cell? ⟨b, 4, none⟩ = some (.int .i64 x4) := by rw [cell_at hb1]; rfl
  have hp1 := ((HP.out.keep hk).keep h1.2.2)
  have hc1 := hp1.cell
  have HP1 := Lib.hid hp1
  have HB1 := Lib.hid hb1
  have H1 := Lib.hid (h1.of hk)
  have HS := Lib.hid (Ha.out.snd h1)
  clear h1 hb hwa hk hb1 hc hp1 hbe
  go_wp2_with fail
  refine (num_put [x4] (by simp) HS.out.fst 1 rfl _ rfl _ rfl).mono ?_
  rintro e w2 h2
  obtain rfl := h2.1
  have c5 : w2.cell? ⟨b, 5, none⟩ = some (.slice A1 x5.length c1) := by rw [cell_at (h2.2.2.keep HB1.out (by decide))]; rfl
  have hp2 := HP1.out.keep h2.2.2
  have hc2 := hp2.cell
  have HP2 := Lib.hid hp2
  have H2 := Lib.hid h2
  have HS2 := Lib.hid (HS.out.snd h2)
  clear h2 hp2 c4 hc1
  go_wp2_with fail
  refine (list61_put E61 x5 A1 c1 HC.out HP2.out good61 HG.out.2 HG.out.1 need_each HS2.out).mono ?_
  rintro e w3 h3
  obtain rfl := h3.1
  have H3 := Lib.hid (H1.out.seq (H2.out.seq h3))
  clear h3
  go_wp2
  go_end0
  exact H3.out

def good44 (x : S44) : Prop := x.f1.length ≤ 1048576 ∧ ∀ y ∈ x.f1, good52 y
def E44 (x : S44) : List Int × Bool := seqE (textE x.f0) (lenE E52 x.f1)

theorem service_each {W0 : World} {O P : Nat} : Each W0 O P 13 (fun x v => good44 x ∧ ∃ cs, v = .agg cs.toArray ∧ k44.K W0 x cs) E44 := by
  rintro ⟨x0, x1⟩ v w bs bad ⟨hg, cs, rfl, hK⟩ hP h
  obtain ⟨A1, c1, rfl, _, hC⟩ := k44_open hK
  have H := Lib.hid h
  have hc : ∀ o, (w.alloc o).cell? ⟨P, 0, none⟩ = some (.pointer (some ⟨O, 0, none⟩)) := fun o => pw_cell_alloc w o _ hP.cell
  have HP := Lib.hid hP
  have HC := Lib.hid hC
  have HG := Lib.hid hg
  clear h hP hK hg hC
  simp only []
  go_enter Try.func13, Try.ntmps13
  go_wp2_with fail
  obtain ⟨wa, hwa⟩ : ∃ wa, wa = w.alloc (.cells #[.string x0, .slice A1 x1.length c1] 44) := ⟨_, rfl⟩
  have Ha := Lib.hid (hwa ▸ (H.out.alloc _ : St W0 (w.alloc (.cells #[.string x0, .slice A1 x1.length c1] 44)) O bs bad _))
  have hb : wa.heap[w.heap.size]? = some (.cells #[.string x0, .slice A1 x1.length c1] 44 (0, 0)) := hwa ▸ heap_alloc_new w _
  have hk : KW W0.heap.size w wa := hwa ▸ (KW.refl _ _).alloc _
  rw [← hwa]
  refine (text_put x0 Ha.out.fst).mono ?_
  rintro e w1 h1
  obtain rfl := h1.1
  obtain ⟨b, hbe⟩ : ∃ b, b = w.heap.size := ⟨_, rfl⟩
  rw [← hbe] at hb ⊢
  have hb1 := h1.2.2.keep hb (by decide)
  have c4 : w1.cell? ⟨b, 1, none⟩ = some (.slice A1 x1.length c1) := by rw [cell_at hb1]; rfl
  have hp1 := ((HP.out.keep hk).keep h1.2.2)
  have hc1 := hp1.cell
  have HP1 := Lib.hid hp1
  have H1 := Lib.hid (h1.of hk)
  have HS := Lib.hid (Ha.out.snd h1)
  clear h1 hb hwa hk hb1 hc hp1 hbe
  go_wp2_with fail
  refine (list52_put E52 x1 A1 c1 HC.out HP1.out good52 HG.out.2 HG.out.1 release_each HS.out).mono ?_
  rintro e w3 h3
  obtain rfl := h3.1
  have H3 := Lib.hid (H1.out.seq h3)
  clear h3
  go_wp2
  go_end0
  exact H3.out
end Go.Proofs.Ytjellolccjiblaa
