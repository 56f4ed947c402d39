import Derived.Test.YtjellolccjiblaaRa
namespace Go.Proofs.Ytjellolccjiblaa
open Go.RowKit
open YtjellolccjiblaaW.PrintWords (nums bytesOf bytesOf_length Kd)
open PCodeUnlike

/-- what is written can be told apart from the front -/
def Told {α : Type} (E : α → List Int × Bool) : Prop := ∀ x y r r', (E x).2 = false → (E y).2 = false → (E x).1 ++ r = (E y).1 ++ r' → x = y ∧ r = r'

theorem vi_told : ∀ (n m : Nat) (r r' : List Int), vi n ++ r = vi m ++ r' → n = m ∧ r = r' := by
  intro n
  induction n using Nat.strongRecOn with
  | ind n ih =>
    intro m r r' h
    by_cases hn : n < 128
    · rw [vi_small hn] at h
      by_cases hm : m < 128
      · rw [vi_small hm] at h
        simp at h
        exact ⟨by omega, h.2⟩
      · rw [vi_big (by omega)] at h
        simp at h
        omega
    · rw [vi_big (by omega)] at h
      by_cases hm : m < 128
      · rw [vi_small hm] at h
        simp at h
        omega
      · rw [vi_big (n := m) (by omega)] at h
        simp only [List.cons_append, List.cons.injEq] at h
        obtain ⟨h1, h2⟩ := h
        obtain ⟨h3, h4⟩ := ih (n / 128) (by omega) (m / 128) r r' h2
        exact ⟨by omega, h4⟩

theorem num_ok {x : Int} (h : (numsE [x]).2 = false) : 0 ≤ x ∧ (numsE [x]).1 = vi x.toNat := by
  unfold numsE at h ⊢
  split at h
  · simp at h
  · rename_i hh
    rw [if_neg hh]
    exact ⟨by omega, by simp [numsE]⟩
theorem num_told : Told (fun x : Int => numsE [x]) := by
  intro x y r r' hx hy h
  obtain ⟨h1, h2⟩ := num_ok hx
  obtain ⟨h3, h4⟩ := num_ok hy
  simp only [h2, h4] at h
  obtain ⟨h5, h6⟩ := vi_told _ _ _ _ h
  exact ⟨by omega, h6⟩

theorem seq_told {α β : Type} {E : α → List Int × Bool} {F : β → List Int × Bool} (hE : Told E) (hF : Told F) (x y : α) (u v : β) (r r' : List Int) (hx : (seqE (E x) (F u)).2 = false) (hy : (seqE (E y) (F v)).2 = false) (h : (seqE (E x) (F u)).1 ++ r = (seqE (E y) (F v)).1 ++ r') : x = y ∧ u = v ∧ r = r' := by
  simp [seqE] at hx hy h
  obtain ⟨h1, h2⟩ := hE x y _ _ hx.1 hy.1 h
  obtain ⟨h3, h4⟩ := hF u v _ _ hx.2 hy.2 h2
  exact ⟨h1, h3, h4⟩

theorem nums_three_ok {x0 x1 x2 : Int} (h : (numsE [x0, x1, x2]).2 = false) : numsE [x0, x1, x2] = seqE (numsE [x0]) (seqE (numsE [x1]) (numsE [x2])) := by
  by_cases h0 : x0 < 0 ∨ mostN < x0
  · simp [numsE, h0] at h
  · by_cases h1 : x1 < 0 ∨ mostN < x1
    · simp [numsE, h0, h1] at h
    · by_cases h2 : x2 < 0 ∨ mostN < x2
      · simp [numsE, h0, h1, h2] at h
      · simp [numsE, h0, h1, h2, seqE]

theorem bytesOf_inj {s t : ByteArray} (h : bytesOf s = bytesOf t) : s = t := by
  have h2 : s.data.toList = t.data.toList := List.map_inj_right (f := fun b : UInt8 => (b.toNat : Int)) (fun a b hab => UInt8.toNat_inj.1 (by have : (a.toNat : Int) = b.toNat := hab; omega)) |>.1 h
  exact ByteArray.ext (Array.toList_inj.1 h2)

theorem text_told : Told textE := by
  intro x y r r' hx hy h
  simp [textE, seqE] at hx hy h
  obtain ⟨h1, h2⟩ := num_told (x.size : Int) (y.size : Int) _ _ hx hy h
  have hl : (bytesOf x).length = (bytesOf y).length := by rw [bytesOf_length, bytesOf_length]; omega
  obtain ⟨h3, h4⟩ := List.append_inj h2 hl
  exact ⟨bytesOf_inj h3, h4⟩

theorem list_told {α : Type} {E : α → List Int × Bool} (hE : Told E) : ∀ (xs ys : List α) (r r' : List Int), xs.length = ys.length → (listE E xs).2 = false → (listE E ys).2 = false → (listE E xs).1 ++ r = (listE E ys).1 ++ r' → xs = ys ∧ r = r'
  | [], [], r, r', _, _, _, h => ⟨rfl, by simpa [listE] using h⟩
  | x :: xs, y :: ys, r, r', hl, hx, hy, h => by
    simp [listE, seqE] at hx hy h
    obtain ⟨h1, h2⟩ := hE x y _ _ hx.1 hy.1 h
    obtain ⟨h3, h4⟩ := list_told hE xs ys r r' (by simpa using hl) hx.2 hy.2 h2
    exact ⟨by rw [h1, h3], h4⟩
  | [], _ :: _, _, _, hl, _, _, _ => by simp at hl
  | _ :: _, [], _, _, hl, _, _, _ => by simp at hl
theorem len_told {α : Type} {E : α → List Int × Bool} (hE : Told E) : Told (lenE E) := by
  intro x y r r' hx hy h
  simp [lenE, seqE] at hx hy h
  obtain ⟨h1, h2⟩ := num_told (x.length : Int) (y.length : Int) _ _ hx.1 hy.1 h
  exact list_told hE x y r r' (by omega) hx.2 hy.2 h2

theorem E49_told : Told E49 := by
  rintro ⟨x0, x1, x2, x3⟩ ⟨y0, y1, y2, y3⟩ r r' hx hy h
  have a1 : (numsE [x0, x1, x2]).2 = false := by simp [E49, seqE] at hx; exact hx.1
  have a2 : (numsE [y0, y1, y2]).2 = false := by simp [E49, seqE] at hy; exact hy.1
  simp only [E49, nums_three_ok a1, nums_three_ok a2, seqE_assoc] at hx hy h
  simp [seqE] at hx hy h
  obtain ⟨h1, g1⟩ := num_told x0 y0 _ _ hx.1 hy.1 h
  obtain ⟨h2, g2⟩ := num_told x1 y1 _ _ hx.2.1 hy.2.1 g1
  obtain ⟨h3, g3⟩ := num_told x2 y2 _ _ hx.2.2.1 hy.2.2.1 g2
  obtain ⟨h4, g4⟩ := text_told x3 y3 _ _ hx.2.2.2 hy.2.2.2 g3
  subst h1 h2 h3 h4
  exact ⟨rfl, g4⟩

theorem E93_told : Told E93 := by
  rintro ⟨x0, x1⟩ ⟨y0, y1⟩ r r' hx hy h
  simp [E93, seqE] at hx hy h
  obtain ⟨h1, g1⟩ := num_told x0 y0 _ _ hx.1 hy.1 h
  subst h1
  by_cases h0 : x0 = 0
  · subst h0
    simp [odd93] at hx hy g1
    have e : x1 = y1 := by
      obtain ⟨a0, a1, a2, a3⟩ := x1
      obtain ⟨b0, b1, b2, b3⟩ := y1
      simp at hx hy
      obtain ⟨_, p0, p1, p2, p3⟩ := hx
      obtain ⟨_, q0, q1, q2, q3⟩ := hy
      subst p0 p1 p2 q0 q1 q2
      have : a3 = b3 := by
        rw [Go.ByteArray.toList_eq] at p3 q3
        exact ByteArray.ext (Array.toList_inj.1 (p3.trans q3.symm))
      rw [this]
    exact ⟨by rw [e], g1⟩
  · simp [h0] at hx hy g1
    obtain ⟨h2, g2⟩ := E49_told x1 y1 _ _ hx.2.1 hy.2.1 g1
    exact ⟨by rw [h2], g2⟩

theorem E59_told : Told E59 := by
  rintro ⟨x⟩ ⟨y⟩ r r' hx hy h
  obtain ⟨h1, h2⟩ := len_told (E := E90) (len_told E93_told) x y r r' hx hy h
  exact ⟨by rw [h1], h2⟩
theorem E61_told : Told E61 := by
  rintro ⟨x0, x1⟩ ⟨y0, y1⟩ r r' hx hy h
  obtain ⟨h1, h2, h3⟩ := seq_told num_told E59_told x0 y0 x1 y1 r r' hx hy h
  exact ⟨by rw [h1, h2], h3⟩
theorem E52_told : Told E52 := by
  rintro ⟨x0, x1, x2⟩ ⟨y0, y1, y2⟩ r r' hx hy h
  simp [E52, seqE] at hx hy h
  obtain ⟨h1, g1⟩ := E49_told x0 y0 _ _ hx.1 hy.1 h
  obtain ⟨h2, g2⟩ := num_told x1 y1 _ _ hx.2.1 hy.2.1 g1
  obtain ⟨h3, g3⟩ := len_told E61_told x2 y2 _ _ hx.2.2 hy.2.2 g2
  exact ⟨by rw [h1, h2, h3], g3⟩
theorem E44_told : Told E44 := by
  rintro ⟨x0, x1⟩ ⟨y0, y1⟩ r r' hx hy h
  obtain ⟨h1, h2, h3⟩ := seq_told text_told (len_told E52_told) x0 y0 x1 y1 r r' hx hy h
  exact ⟨by rw [h1, h2], h3⟩
theorem code_told {xs ys : List S44} (hx : (lenE E44 xs).2 = false) (hy : (lenE E44 ys).2 = false) : (lenE E44 xs).1 = (lenE E44 ys).1 ↔ xs = ys :=
  ⟨fun h => (len_told E44_told xs ys [] [] hx hy (by rw [h])).1, fun h => by rw [h]⟩
end Go.Proofs.Ytjellolccjiblaa
