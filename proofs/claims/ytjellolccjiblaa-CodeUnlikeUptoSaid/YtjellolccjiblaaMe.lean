import Derived.Test.YtjellolccjiblaaMd
namespace Go.Proofs.Ytjellolccjiblaa
open Go.RowKit
open PCodeUnlike

theorem EvQ.bind {α β : Type} {Q1 : α → Prop} {Q : β → Prop} {F : Nat → Option α} {G : Nat → α → Option β} (h : EvQ Q1 F) (hG : ∀ r, Q1 r → EvQ Q (fun k => G k r)) : EvQ Q (fun k => (F k).bind (G k)) := by
  obtain ⟨r, ⟨k0, hk⟩, hq⟩ := h
  obtain ⟨r', ⟨k1, hk1⟩, hq'⟩ := hG r hq
  refine ⟨r', ⟨k0 + k1, fun k hk' => ?_⟩, hq'⟩
  show (F k).bind (G k) = some r'
  rw [hk k (by omega)]
  exact hk1 k (by omega)

def c49 (x : S49) : S53 := ⟨x.f0, x.f1, x.f2, x.f3⟩
def c61 (x : S61) : S68 := ⟨x.f0, ⟨c59 x.f1.f0⟩⟩
def c52 (x : S52) : S56 := ⟨c49 x.f0, x.f1, x.f2.map c61⟩
def c44 (x : S44) : S47 := ⟨x.f0, x.f1.map c52⟩

theorem drop_at {α : Type} {xs : List α} {i : Nat} {x : α} (hx : xs[i]? = some x) : xs.drop i = x :: xs.drop (i + 1) := by
  obtain ⟨h, e⟩ := List.getElem?_eq_some_iff.1 hx
  rw [List.drop_eq_getElem_cons h, e]

theorem cat_l2 {Q : List S47 × Bool → Prop} (hQ : ∀ o, Q (o, false)) (x21 : List S44) (x22 x23 : Int) (x42 : List S52) (x43 x44 : Int) (x66 : List S61) (out : List S47) (nm : ByteArray) (rs : List S56) (v0 v1 v2 : Int) (v3 : ByteArray) (lv : Int) (hrs : rs.length ≤ 100) (hl : x66.length ≤ 100) : ∀ (n i : Nat) (nd : List S68), i + n = x66.length → nd.length = i →
    EvQ Q (fun k => slipwaymade_Catalog.l1 k x21 x22 x23 x42 x43 (wrap64 (x44 + 1)) out nm (rs ++ [⟨⟨v0, v1, v2, v3⟩, lv, nd ++ (x66.drop i).map c61⟩])) →
    EvQ Q (fun k => slipwaymade_Catalog.l2 k x21 x22 x23 x42 x43 x44 x66 (x66.length : Int) (i : Int) out nm rs v0 v1 v2 v3 lv nd)
  | 0, i, nd, h, h7, hE => by
    refine hE.step fun k => ?_
    rw [slipwaymade_Catalog.l2, if_neg (by omega), if_pos (by omega)]
    rw [List.drop_eq_nil_of_le (by omega)]
    simp
  | n + 1, i, nd, h, h7, hE => by
    obtain ⟨x, hx⟩ : ∃ x, x66[i]? = some x := ⟨_, List.getElem?_eq_getElem (by omega)⟩
    have hr : rd_T61 x66 (i : Int) = x := by simp [rd_T61, hx]
    refine EvQ.step (G := fun k => (slipwaymade_Range.f k x.f1.f0).bind fun bt => if bt.2 = true then slipwaymade_Catalog.l2 k x21 x22 x23 x42 x43 x44 x66 (x66.length : Int) ((i + 1 : Nat) : Int) out nm rs v0 v1 v2 v3 lv (nd ++ [⟨x.f0, ⟨bt.1⟩⟩]) else some (out, false)) ?_ fun k => ?_
    · refine EvQ.bind (range_f (Q := fun r => r.2 = true → r.1 = c59 x.f1.f0) (by simp) x.f1.f0 (fun _ => rfl)) fun r hr1 => ?_
      by_cases hb : r.2 = true
      · have ih := cat_l2 hQ x21 x22 x23 x42 x43 x44 x66 out nm rs v0 v1 v2 v3 lv hrs hl n (i + 1) (nd ++ [c61 x]) (by omega) (by simp [h7]) (by rw [drop_at hx] at hE; simpa using hE)
        refine ih.congr fun k => ?_
        rw [if_pos hb, hr1 hb]
        rfl
      · refine EvQ.now (hQ out) fun k => ?_
        simp only [if_neg hb]
    · rw [slipwaymade_Catalog.l2, if_pos (by omega), if_pos (by omega), if_pos (by omega), hr, nxt i (by omega)]
      congr 1
      funext bt
      rw [if_pos (show nd.length < 4398046511104 by omega)]

theorem cat_l1 {Q : List S47 × Bool → Prop} (hQ : ∀ o, Q (o, false)) (x21 : List S44) (x22 x23 : Int) (x42 : List S52) (out : List S47) (nm : ByteArray) (ho : out.length ≤ 100) (hl : x42.length ≤ 100) : ∀ (n i : Nat) (rs : List S56), i + n = x42.length → rs.length = i →
    EvQ Q (fun k => slipwaymade_Catalog.l0 k x21 x22 (wrap64 (x23 + 1)) (out ++ [⟨nm, rs ++ (x42.drop i).map c52⟩])) →
    EvQ Q (fun k => slipwaymade_Catalog.l1 k x21 x22 x23 x42 (x42.length : Int) (i : Int) out nm rs)
  | 0, i, rs, h, h7, hE => by
    refine hE.step fun k => ?_
    rw [slipwaymade_Catalog.l1, if_neg (by omega), if_pos (by omega)]
    rw [List.drop_eq_nil_of_le (by omega)]
    simp
  | n + 1, i, rs, h, h7, hE => by
    obtain ⟨x, hx⟩ : ∃ x, x42[i]? = some x := ⟨_, List.getElem?_eq_getElem (by omega)⟩
    have hr : rd_T52 x42 (i : Int) = x := by simp [rd_T52, hx]
    have bad : ∀ (a0 a1 a2 : Int) (a3 : ByteArray) (a4 : Int) (a5 : List S61) (b0 b1 b2 : Int) (b3 : ByteArray) (b4 : Int), EvQ Q (fun k => slipwaymade_Catalog.j3 k x21 x22 x23 x42 (x42.length : Int) (i : Int) true out nm rs a0 a1 a2 a3 a4 a5 b0 b1 b2 b3 b4) := fun _ _ _ _ _ _ _ _ _ _ _ =>
      EvQ.now (hQ out) fun k => by rw [slipwaymade_Catalog.j3, if_pos rfl]
    by_cases hp : (x.f2.length : Int) > 12
    · refine (bad x.f0.f0 x.f0.f1 x.f0.f2 x.f0.f3 x.f1 x.f2 x.f0.f0 x.f0.f1 x.f0.f2 x.f0.f3 x.f1).step fun k => ?_
      rw [slipwaymade_Catalog.l1, if_pos (by omega), if_pos (by omega), if_pos (by omega), hr, if_pos hp]
    · by_cases hs : (x.f0.f3.size : Int) > 100
      · refine (bad x.f0.f0 x.f0.f1 x.f0.f2 x.f0.f3 x.f1 x.f2 x.f0.f0 x.f0.f1 x.f0.f2 x.f0.f3 x.f1).step fun k => ?_
        rw [slipwaymade_Catalog.l1, if_pos (by omega), if_pos (by omega), if_pos (by omega), hr, if_neg hp, decide_eq_true hs]
      · have ih := cat_l1 hQ x21 x22 x23 x42 out nm ho hl n (i + 1) (rs ++ [c52 x]) (by omega) (by simp [h7]) (by rw [drop_at hx] at hE; simpa using hE)
        have h2 := cat_l2 hQ x21 x22 x23 x42 (x42.length : Int) (i : Int) x.f2 out nm rs x.f0.f0 x.f0.f1 x.f0.f2 x.f0.f3 x.f1 (by omega) (by omega) x.f2.length 0 [] (by omega) rfl (by
          rw [nxt i (by omega)]
          exact ih)
        have h3 : EvQ Q (fun k => slipwaymade_Catalog.j3 k x21 x22 x23 x42 (x42.length : Int) (i : Int) false out nm rs x.f0.f0 x.f0.f1 x.f0.f2 x.f0.f3 x.f1 x.f2 x.f0.f0 x.f0.f1 x.f0.f2 x.f0.f3 x.f1) := h2.step fun k => by
          rw [slipwaymade_Catalog.j3, if_neg (by simp)]
          rfl
        refine h3.step fun k => ?_
        rw [slipwaymade_Catalog.l1, if_pos (by omega), if_pos (by omega), if_pos (by omega), hr, if_neg hp, decide_eq_false hs]

theorem cat_l0 {Q : List S47 × Bool → Prop} (hQ : ∀ o, Q (o, false)) (x21 : List S44) (hl : x21.length ≤ 100) (hT : Q (x21.map c44, true)) : ∀ (n i : Nat), i + n = x21.length →
    EvQ Q (fun k => slipwaymade_Catalog.l0 k x21 (x21.length : Int) (i : Int) ((x21.take i).map c44))
  | 0, i, h => by
    refine EvQ.now hT fun k => ?_
    rw [slipwaymade_Catalog.l0, if_neg (by omega), List.take_of_length_le (by omega)]
  | n + 1, i, h => by
    obtain ⟨x, hx⟩ : ∃ x, x21[i]? = some x := ⟨_, List.getElem?_eq_getElem (by omega)⟩
    have hr : rd_T44 x21 (i : Int) = x := by simp [rd_T44, hx]
    have bad : ∀ (a : ByteArray) (b : List S52) (c : ByteArray), EvQ Q (fun k => slipwaymade_Catalog.j1 k x21 (x21.length : Int) (i : Int) true ((x21.take i).map c44) a b c) := fun _ _ _ =>
      EvQ.now (hQ ((x21.take i).map c44)) fun k => by rw [slipwaymade_Catalog.j1, if_pos rfl]
    by_cases hp : (x.f0.size : Int) > 100
    · refine (bad x.f0 x.f1 x.f0).step fun k => ?_
      rw [slipwaymade_Catalog.l0, if_pos (by omega), if_pos (by omega), if_pos (by omega), hr, if_pos hp]
    · by_cases hs : (x.f1.length : Int) > 16
      · refine (bad x.f0 x.f1 x.f0).step fun k => ?_
        rw [slipwaymade_Catalog.l0, if_pos (by omega), if_pos (by omega), if_pos (by omega), hr, if_neg hp, decide_eq_true hs]
      · have ih := cat_l0 hQ x21 hl hT n (i + 1) (by omega)
        have h2 := cat_l1 hQ x21 (x21.length : Int) (i : Int) x.f1 ((x21.take i).map c44) x.f0 (by simp; omega) (by omega) x.f1.length 0 [] (by omega) rfl (by
          rw [nxt i (by omega)]
          refine ih.congr fun k => ?_
          congr 1
          rw [List.take_add_one, hx]
          simp [c44])
        have h3 : EvQ Q (fun k => slipwaymade_Catalog.j1 k x21 (x21.length : Int) (i : Int) false ((x21.take i).map c44) x.f0 x.f1 x.f0) := h2.step fun k => by
          rw [slipwaymade_Catalog.j1, if_neg (by simp)]
          rfl
        refine h3.step fun k => ?_
        rw [slipwaymade_Catalog.l0, if_pos (by omega), if_pos (by omega), if_pos (by omega), hr, if_neg hp, decide_eq_false hs]

theorem catalog_f (l : List S44) : ∃ k r, slipwaymade_Catalog.f k l = some r ∧ (r.2 = true → r.1 = l.map c44) := by
  by_cases h : (l.length : Int) > 16
  · refine ⟨0, ([], false), ?_, by simp⟩
    unfold slipwaymade_Catalog.f
    rw [if_pos h]
  · obtain ⟨r, ⟨k0, hk⟩, hq⟩ := cat_l0 (Q := fun r => r.2 = true → r.1 = l.map c44) (by simp) l (by omega) (fun _ => rfl) l.length 0 (by omega)
    refine ⟨k0, r, ?_, hq⟩
    unfold slipwaymade_Catalog.f
    rw [if_neg h]
    exact hk k0 (Nat.le_refl _)

theorem c49_inj {x y : S49} (h : c49 x = c49 y) : x = y := by
  obtain ⟨x0, x1, x2, x3⟩ := x
  obtain ⟨y0, y1, y2, y3⟩ := y
  simpa [c49] using h
theorem c93_inj {x y : S93} (h : c93 x = c93 y) : x = y := by
  obtain ⟨x0, x1, x2, x3, x4⟩ := x
  obtain ⟨y0, y1, y2, y3, y4⟩ := y
  simpa [c93] using h
theorem map_inj {α β : Type} {f : α → β} (hf : ∀ {x y}, f x = f y → x = y) {xs ys : List α} (h : xs.map f = ys.map f) : xs = ys := (List.map_inj_right (fun _ _ e => hf e)).1 h
theorem c59_inj {x y : List (List S93)} (h : c59 x = c59 y) : x = y := map_inj (f := fun l : List S93 => l.map c93) (fun h => map_inj c93_inj h) h
theorem c61_inj {x y : S61} (h : c61 x = c61 y) : x = y := by
  obtain ⟨x0, ⟨x1⟩⟩ := x
  obtain ⟨y0, ⟨y1⟩⟩ := y
  simp [c61] at h
  rw [h.1, c59_inj h.2]
theorem c52_inj {x y : S52} (h : c52 x = c52 y) : x = y := by
  obtain ⟨x0, x1, x2⟩ := x
  obtain ⟨y0, y1, y2⟩ := y
  simp [c52] at h
  rw [c49_inj h.1, h.2.1, map_inj c61_inj h.2.2]
theorem c44_inj {x y : S44} (h : c44 x = c44 y) : x = y := by
  obtain ⟨x0, x1⟩ := x
  obtain ⟨y0, y1⟩ := y
  simp [c44] at h
  rw [h.1, map_inj c52_inj h.2]
end Go.Proofs.Ytjellolccjiblaa
