import Derived.Test.YtjellolccjiblaaKc
import Derived.Test.YtjellolccjiblaaSa
namespace Go.Proofs.Ytjellolccjiblaa
open Go.RowKit
open PCodeUnlike

/-- with fuel enough -/
def Ev {β : Type} (F : Nat → Option β) (r : β) : Prop := ∃ k0, ∀ k, k0 ≤ k → F k = some r
def EvQ {β : Type} (Q : β → Prop) (F : Nat → Option β) : Prop := ∃ r, Ev F r ∧ Q r
theorem EvQ.step {β : Type} {Q : β → Prop} {F G : Nat → Option β} (h : EvQ Q G) (hs : ∀ k, F (k + 1) = G k) : EvQ Q F := by
  obtain ⟨r, ⟨k0, hk⟩, hq⟩ := h
  refine ⟨r, ⟨k0 + 1, fun k hk' => ?_⟩, hq⟩
  obtain ⟨m, rfl⟩ : ∃ m, k = m + 1 := ⟨k - 1, by omega⟩
  rw [hs]
  exact hk m (by omega)
theorem EvQ.now {β : Type} {Q : β → Prop} {F : Nat → Option β} {r : β} (hq : Q r) (hs : ∀ k, F (k + 1) = some r) : EvQ Q F :=
  EvQ.step (G := fun _ => some r) ⟨r, ⟨0, fun _ _ => rfl⟩, hq⟩ hs
theorem EvQ.congr {β : Type} {Q : β → Prop} {F G : Nat → Option β} (h : EvQ Q G) (hs : ∀ k, F k = G k) : EvQ Q F := by
  obtain ⟨r, ⟨k0, hk⟩, hq⟩ := h
  exact ⟨r, ⟨k0, fun k hk' => (hs k).trans (hk k hk')⟩, hq⟩

def c93 (x : S93) : S95 := ⟨x.f0, ⟨x.f1.f0, x.f1.f1, x.f1.f2, x.f1.f3⟩⟩
def c59 (x : List (List S93)) : List (List S95) := x.map (·.map c93)
theorem c93_at {xs : List S93} {i : Nat} {x : S93} (h : xs[i]? = some x) : rd_T93 xs (i : Int) = x := by simp [rd_T93, h]
theorem nxt (i : Nat) (h : i ≤ 4611686018427387904) : wrap64 ((i : Int) + 1) = ((i + 1 : Nat) : Int) := by
  rw [wrap_small _ (by omega) (by omega)]
  simp

theorem range_l1 {Q : List (List S95) × Bool → Prop} (hQ : ∀ o, Q (o, false)) (x16 : List (List S93)) (x17 x18 : Int) (x26 : List S93) (out : List (List S95)) (ho : out.length ≤ 100) (hl : x26.length ≤ 100) : ∀ (n i : Nat) (x7 : List S95), i + n = x26.length → x7.length = i →
    EvQ Q (fun k => slipwaymade_Range.l0 k x16 x17 (wrap64 (x18 + 1)) (out ++ [x7 ++ (x26.drop i).map c93])) →
    EvQ Q (fun k => slipwaymade_Range.l1 k x7 x16 x17 x18 x26 (x26.length : Int) (i : Int) out)
  | 0, i, x7, h, h7, hE => by
    refine hE.step fun k => ?_
    rw [slipwaymade_Range.l1, if_neg (by omega), if_pos (by omega)]
    rw [List.drop_eq_nil_of_le (by omega)]
    simp
  | n + 1, i, x7, h, h7, hE => by
    obtain ⟨x, hx⟩ : ∃ x, x26[i]? = some x := ⟨_, List.getElem?_eq_getElem (by omega)⟩
    have hd : x26.drop i = x :: x26.drop (i + 1) := by
      rw [List.drop_eq_getElem_cons (by omega)]
      rw [List.getElem?_eq_getElem (by omega)] at hx
      rw [Option.some.inj hx]
    by_cases hp : (x.f1.f3.size : Int) > 100
    · refine EvQ.now (hQ out) fun k => ?_
      rw [slipwaymade_Range.l1, if_pos (by omega), if_pos (by omega), if_pos (by omega), c93_at hx, if_pos hp]
    · have ih := range_l1 hQ x16 x17 x18 x26 out ho hl n (i + 1) (x7 ++ [c93 x]) (by omega) (by simp [h7]) (by rw [hd] at hE; simpa using hE)
      refine ih.step fun k => ?_
      rw [slipwaymade_Range.l1, if_pos (by omega), if_pos (by omega), if_pos (by omega), c93_at hx, if_neg hp, if_pos (by omega), nxt i (by omega)]
      rfl

theorem range_l0 {Q : List (List S95) × Bool → Prop} (hQ : ∀ o, Q (o, false)) (x16 : List (List S93)) (hl : x16.length ≤ 100) (hT : Q (c59 x16, true)) : ∀ (n i : Nat), i + n = x16.length →
    EvQ Q (fun k => slipwaymade_Range.l0 k x16 (x16.length : Int) (i : Int) (c59 (x16.take i)))
  | 0, i, h => by
    refine EvQ.now hT fun k => ?_
    rw [slipwaymade_Range.l0, if_neg (by omega), List.take_of_length_le (by omega)]
  | n + 1, i, h => by
    obtain ⟨x, hx⟩ : ∃ x, x16[i]? = some x := ⟨_, List.getElem?_eq_getElem (by omega)⟩
    have hr : rd_L5 x16 (i : Int) = x := by simp [rd_L5, hx]
    by_cases hp : (x.length : Int) > 12
    · refine EvQ.now (hQ (c59 (x16.take i))) fun k => ?_
      rw [slipwaymade_Range.l0, if_pos (by omega), if_pos (by omega), if_pos (by omega), hr, if_pos hp]
    · have ih := range_l0 hQ x16 hl hT n (i + 1) (by omega)
      have hnx := range_l1 hQ x16 (x16.length : Int) (i : Int) x (c59 (x16.take i)) (by simp [c59]; omega) (by omega) x.length 0 [] (by omega) rfl (by
        rw [nxt i (by omega)]
        refine ih.congr fun k => ?_
        congr 1
        rw [List.take_add_one, hx]
        simp [c59])
      refine hnx.step fun k => ?_
      rw [slipwaymade_Range.l0, if_pos (by omega), if_pos (by omega), if_pos (by omega), hr, if_neg hp]
      rfl

theorem range_f {Q : List (List S95) × Bool → Prop} (hQ : ∀ o, Q (o, false)) (l : List (List S93)) (hT : Q (c59 l, true)) : EvQ Q (fun k => slipwaymade_Range.f k l) := by
  by_cases h : (l.length : Int) > 12
  · refine ⟨_, ⟨0, fun k _ => ?_⟩, hQ []⟩
    show slipwaymade_Range.f k l = _
    unfold slipwaymade_Range.f
    rw [if_pos h]
  · have := range_l0 hQ l (by omega) hT l.length 0 (by omega)
    refine this.congr fun k => ?_
    unfold slipwaymade_Range.f
    rw [if_neg h]
    rfl
end Go.Proofs.Ytjellolccjiblaa
