import Derived.Test.YtedalanhjhiehaaDoorSi
import Derived.Test.YtedalanhjhiehaaDoorSd
import Derived.Test.YtedalanhjhiehaaDoorSg
set_option linter.unusedSimpArgs false
set_option linter.unusedVariables false
namespace Go.Proofs.YtedalanhjhiehaaDoor
open Go.RowKit
open YtedalanhjhiehaaDoorW.PrintWords (nums ReadsInt rd own_slice own_typed Kd)

/-! ### the play, in plain terms -/
theorem rplG_ge : ∀ (L : List RecP) (s : StateP) (k : Nat), k ≤ (rplG s k L).2.1
  | [], s, k => Nat.le_refl _
  | r :: L, s, k => by
    unfold rplG
    split
    · have := rplG_ge L (takeP s r).1 (k + 1); omega
    · exact Nat.le_refl _
theorem rplG_le : ∀ (L : List RecP) (s : StateP) (k : Nat), (rplG s k L).2.1 ≤ k + L.length
  | [], s, k => by simp [rplG]
  | r :: L, s, k => by
    unfold rplG
    split
    · have := rplG_le L (takeP s r).1 (k + 1); simp; omega
    · simp
theorem rplG_more {rs : List RecP} {t S : StateP} {k n : Nat} {e : Int} (h : rplG t k (rs.drop k) = (S, n, e)) (hk : k < n) :
    ∃ hlt : k < rs.length, ∃ t', takeP t rs[k] = (t', 0) ∧ rplG t' (k + 1) (rs.drop (k + 1)) = (S, n, e) := by
  have hlt : k < rs.length := by
    rcases Nat.lt_or_ge k rs.length with h1 | h1
    · exact h1
    · rw [List.drop_eq_nil_of_le h1, rplG] at h
      injection h with _ h2
      injection h2 with h2 _
      omega
  refine ⟨hlt, ?_⟩
  obtain ⟨t', e', hx⟩ : ∃ t' e', takeP t rs[k] = (t', e') := ⟨_, _, rfl⟩
  rw [rplG_drop hlt hx] at h
  by_cases he : e' = 0
  · rw [if_pos he] at h
    exact ⟨t', by rw [hx, he], h⟩
  · rw [if_neg he] at h
    injection h with _ h2
    injection h2 with h2 _
    omega
theorem rplG_same {L : List RecP} {t S : StateP} {n : Nat} {e : Int} (h : rplG t n L = (S, n, e)) : t = S := by
  cases L with
  | nil => rw [rplG] at h; injection h
  | cons r L =>
    unfold rplG at h
    split at h
    · have := rplG_ge L (takeP t r).1 (n + 1)
      rw [h] at this
      simp at this
      omega
    · injection h
theorem nextS_small {s : StateP} {r : RecP} (h : smallB s.plan = true) (hr : smallB r.plan = true) : smallB (nextS s r).plan = true := by
  unfold nextS
  repeat' split
  all_goals first | exact hr | exact h
theorem smallL_all {rs : List RecP} {m : Int} (h : smallL rs m = true) : (∀ r ∈ rs, smallB r.plan = true) ∧ (rs.length : Int) ≤ m := by
  simpa [smallL] using h

/-! ### what writing over leaves -/
structure Mut (w1 w7 wx : World) (c b8 hi : Nat) : Prop where
  below : Below (c + 1) w1 wx
  size : wx.heap.size = w7.heap.size
  lo : ∀ k, k < c + 2 → wx.heap[k]? = w7.heap[k]?
  bx : wx.heap[b8]? = w7.heap[b8]?
  up : ∀ k, hi ≤ k → wx.heap[k]? = w7.heap[k]?
theorem Mut.start {w1 w7 : World} {c b8 hi : Nat} (h : Below (c + 1) w1 w7) : Mut w1 w7 w7 c b8 hi := ⟨h, rfl, fun _ _ => rfl, rfl, fun _ _ => rfl⟩
theorem Mut.set {w1 w7 wx : World} {c b8 hi : Nat} (h : Mut w1 w7 wx c b8 hi) (g o : Nat) (v : Value) (h1 : c + 2 ≤ g) (h2 : g < hi) (h3 : g ≠ b8) : Mut w1 w7 (wx.setCell ⟨g, o, none⟩ v) c b8 hi :=
  ⟨h.below.setCell (by show c + 1 ≤ g; omega) v, by simp [World.setCell]; exact h.size, fun k hk => (Below.heap_setCell wx ⟨g, o, none⟩ v k (by show ¬ k = g; omega)).trans (h.lo k hk),
   (Below.heap_setCell wx ⟨g, o, none⟩ v b8 (by show ¬ b8 = g; omega)).trans h.bx, fun k hk => (Below.heap_setCell wx ⟨g, o, none⟩ v k (by show ¬ k = g; omega)).trans (h.up k hk)⟩
end Go.Proofs.YtedalanhjhiehaaDoor
