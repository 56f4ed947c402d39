import Derived.Test.YtjellolccjiblaaLj
namespace Go.Proofs.Ytjellolccjiblaa
open Go.RowKit
open YtjellolccjiblaaW.PrintWords (nums own_slice bytesOf print_append_str bytesOf_length Kd)
open PCodeUnlike

def odd93 (x : S93) : Bool := decide (x.f0 = 0) && !decide (x.f1.f0 = 0 ∧ x.f1.f1 = 0 ∧ x.f1.f2 = 0 ∧ x.f1.f3.toList = [])
def E93 (x : S93) : List Int × Bool := seqE (numsE [x.f0]) (seqE (if x.f0 = 0 then ([], false) else E49 x.f1) ([], odd93 x))

theorem Wrote.nil {W0 w : World} {O : Nat} {bs : List Int} {bad : Bool} (h : WS w W0.heap.size O bs bad) : Wrote W0 w O bs bad ([], false) (.returned (.tuple #[])) w := ⟨rfl, by simpa using h, KW.refl _ _⟩
theorem Wrote.odd {W0 w : World} {O : Nat} {bs : List Int} {bad o b : Bool} (h : WS w W0.heap.size O bs bad) (hb : b = (bad || o)) : Wrote W0 w O bs bad ([], o) (.returned (.tuple #[])) ((w.setCell ⟨O, 1, none⟩ (.bool b)).drew) := by
  subst hb
  have k : Below (w.setCell ⟨O, 1, none⟩ (.bool (bad || o))).heap.size (w.setCell ⟨O, 1, none⟩ (.bool (bad || o))) ((w.setCell ⟨O, 1, none⟩ (.bool (bad || o))).drew) := ⟨rfl, rfl, rfl, Nat.le_refl _, fun _ _ => rfl⟩
  exact ⟨rfl, by simpa using (h.set_bad (b := bad || o)).1.keep k, h.set_bad.2.trans (.of_below k)⟩

theorem comp_each {W0 : World} {O P : Nat} (good : S93 → Prop) : Each W0 O P 30 (fun x v => good x ∧ ∃ cs, v = .agg cs.toArray ∧ k93.K W0 x cs) E93 := by
  rintro ⟨x0, x1, x2, x3, x4⟩ v w bs bad ⟨_, cs, rfl, hK⟩ hP h
  obtain rfl := k93_open hK
  clear hK
  have H := Lib.hid h
  have hc : ∀ o, (w.alloc o).cell? ⟨P, 0, none⟩ = some (.pointer (some ⟨O, 0, none⟩)) := fun o => pw_cell_alloc w o _ hP.cell
  have HP := Lib.hid hP
  clear h hP
  simp only []
  go_enter Try.func30, Try.ntmps30
  go_wp2_with fail
  obtain ⟨wa, hwa⟩ : ∃ wa, wa = w.alloc (.cells #[.int .i64 x0, .int .i64 x1, .int .i64 x2, .int .i64 x3, .string x4] 93) := ⟨_, rfl⟩
  have Ha := Lib.hid (hwa ▸ (H.out.alloc _ : St W0 (w.alloc (.cells #[.int .i64 x0, .int .i64 x1, .int .i64 x2, .int .i64 x3, .string x4] 93)) O bs bad _))
  have hb : wa.heap[w.heap.size]? = some (.cells #[.int .i64 x0, .int .i64 x1, .int .i64 x2, .int .i64 x3, .string x4] 93 (0, 0)) := hwa ▸ heap_alloc_new w _
  have hk : KW W0.heap.size w wa := hwa ▸ (KW.refl _ _).alloc _
  rw [← hwa]
  refine (num_put [x0] (by simp) Ha.out.fst 1 rfl _ rfl _ (by rw [hwa]; simp)).mono ?_
  rintro e w1 h1
  obtain rfl := h1.1
  obtain ⟨b, hbe⟩ : ∃ b, b = w.heap.size := ⟨_, rfl⟩
  rw [← hbe] at hb
  have hb1 := h1.2.2.keep hb (by decide)
  have HB1 := Lib.hid hb1
  have c0 : w1.cell? ⟨b, 0, none⟩ = some (.int .i64 x0) := by rw [cell_at hb1]; rfl
  have c1 : w1.cell? ⟨b, 1, none⟩ = some (.int .i64 x1) := by rw [cell_at hb1]; rfl
  have c2 : w1.cell? ⟨b, 2, none⟩ = some (.int .i64 x2) := by rw [cell_at hb1]; rfl
  have c3 : w1.cell? ⟨b, 3, none⟩ = some (.int .i64 x3) := by rw [cell_at hb1]; rfl
  have c4 : w1.cell? ⟨b, 4, none⟩ = some (.string x4) := by rw [cell_at hb1]; rfl
  have hp1 := (HP.out.keep hk).keep h1.2.2
  have HP1 := Lib.hid hp1
  have hc1 := hp1.cell
  have H1 := Lib.hid h1
  have HK := Lib.hid hk
  have HS := Lib.hid (Ha.out.snd h1)
  rw [← hbe]
  clear h1 hb hwa hk hb1 hp1 hc hbe
  by_cases h0 : x0 = 0
  · subst h0
    obtain ⟨hBO, v, hO, hown⟩ := H1.out.2.1
    have co : w1.cell? ⟨O, 1, none⟩ = some (.bool (bad || (numsE [0]).2)) := by rw [cell_at hO]; rfl
    have fo := frozen_at hO 1
    have hws := H1.out.2.1
    generalize hbd : (bad || (numsE [0]).2) = bad1 at co hws
    have HWS := Lib.hid hws
    have fin : ∀ bb, bb = (bad1 || odd93 ⟨0, x1, x2, x3, x4⟩) → Wrote W0 w O bs bad (E93 ⟨0, x1, x2, x3, x4⟩) (.returned (.tuple #[])) ((w1.setCell ⟨O, 1, none⟩ (.bool bb)).drew) := by
      intro bb hbb
      have h3 := Wrote.odd HWS.out hbb
      have h23 : Wrote W0 w1 O (bs ++ (numsE [0]).1) (bad || (numsE [0]).2) (seqE ([], false) ([], odd93 ⟨0, x1, x2, x3, x4⟩)) (.returned (.tuple #[])) ((w1.setCell ⟨O, 1, none⟩ (.bool bb)).drew) := (Wrote.nil H1.out.2.1).seq (by simpa [hbd] using h3)
      exact (H1.out.seq h23).of HK.out
    have FIN := Lib.hid fin
    clear hO hown fin hws
    go_wp2_with fail
    cases bad1 with
    | true =>
      go_region
      go_end0
      exact FIN.out _ rfl
    | false =>
      by_cases g1 : x1 = 0
      · by_cases g2 : x2 = 0
        · by_cases g3 : x3 = 0
          · by_cases g4 : x4.toList = []
            · go_region
              go_end0
              exact FIN.out _ (by simp [odd93, g1, g2, g3, g4])
            · go_region
              go_end0
              exact FIN.out _ (by simp [odd93, g1, g2, g3, g4])
          · go_region
            go_end0
            exact FIN.out _ (by simp [odd93, g1, g2, g3])
        · go_region
          go_end0
          exact FIN.out _ (by simp [odd93, g1, g2])
      · go_region
        go_end0
        exact FIN.out _ (by simp [odd93, g1])
  · have hd : (x0 == (0:Int)) = false := by simpa using h0
    have HS' := Lib.hid (show St W0 w1 O (bs ++ (numsE [x0]).1) (bad || (numsE [x0]).2) (seqE (E49 ⟨x1, x2, x3, x4⟩) ([], odd93 ⟨x0, x1, x2, x3, x4⟩)) by have := HS.out; simpa [h0] using this)
    go_wp2_with fail
    refine (version_put x1 x2 x3 x4 HS'.out.fst).mono ?_
    rintro e w2 h2
    obtain rfl := h2.1
    have hb2 := h2.2.2.keep HB1.out (by decide)
    have hp2 := (HP1.out.keep h2.2.2).cell
    clear c0 c1 c2 c3 c4 hc1
    have c0 : w2.cell? ⟨b, 0, none⟩ = some (.int .i64 x0) := by rw [cell_at hb2]; rfl
    have c1 : w2.cell? ⟨b, 1, none⟩ = some (.int .i64 x1) := by rw [cell_at hb2]; rfl
    have c2 : w2.cell? ⟨b, 2, none⟩ = some (.int .i64 x2) := by rw [cell_at hb2]; rfl
    have c3 : w2.cell? ⟨b, 3, none⟩ = some (.int .i64 x3) := by rw [cell_at hb2]; rfl
    have c4 : w2.cell? ⟨b, 4, none⟩ = some (.string x4) := by rw [cell_at hb2]; rfl
    obtain ⟨hBO, v, hO, hown⟩ := h2.2.1
    have co : w2.cell? ⟨O, 1, none⟩ = some (.bool (bad || (numsE [x0]).2 || (E49 ⟨x1, x2, x3, x4⟩).2)) := by rw [cell_at hO]; rfl
    have fo := frozen_at hO 1
    have hws := h2.2.1
    generalize hbd : (bad || (numsE [x0]).2 || (E49 ⟨x1, x2, x3, x4⟩).2) = bad1 at co hws
    have H2 := Lib.hid h2
    have fin : ∀ bb, bb = bad1 → Wrote W0 w O bs bad (E93 ⟨x0, x1, x2, x3, x4⟩) (.returned (.tuple #[])) ((w2.setCell ⟨O, 1, none⟩ (.bool bb)).drew) := by
      intro bb hbb
      have h3 := Wrote.odd (o := odd93 ⟨x0, x1, x2, x3, x4⟩) hws (b := bb) (by rw [hbb]; simp [odd93, h0])
      have h23 := H2.out.seq (r' := ([], odd93 ⟨x0, x1, x2, x3, x4⟩)) (by rw [hbd]; exact h3)
      have h123 := (H1.out.seq h23).of HK.out
      have e93 : E93 ⟨x0, x1, x2, x3, x4⟩ = seqE (numsE [x0]) (seqE (E49 ⟨x1, x2, x3, x4⟩) ([], odd93 ⟨x0, x1, x2, x3, x4⟩)) := by simp [E93, h0]
      rw [e93]
      exact h123
    have FIN := Lib.hid fin
    clear hO hown fin hws h2 hb2
    go_wp2_with fail
    cases bad1 with
    | true =>
      go_region
      go_end0
      exact FIN.out _ rfl
    | false =>
      go_region
      go_end0
      exact FIN.out _ rfl
end Go.Proofs.Ytjellolccjiblaa
