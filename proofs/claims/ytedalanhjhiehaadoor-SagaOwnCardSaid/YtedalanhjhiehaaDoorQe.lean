import Derived.Test.YtedalanhjhiehaaDoorQd
namespace Go.Proofs.YtedalanhjhiehaaDoor
open Go.RowKit
open YtedalanhjhiehaaDoorW.PrintWords (nums ReadsInt rd own_slice own_typed Kd)

def ClI (w : World) (xs : List Int) (e : Ending) (w' : World) : Prop := ∃ s' : SL, e = .returned (s'.v xs.length) ∧ OwI w' w.heap.size s' xs ∧ Below w.heap.size w w'
def ClS (t : Nat) (w : World) (xs : List (Int × Int)) (e : Ending) (w' : World) : Prop := ∃ s' : SL, e = .returned (s'.v xs.length) ∧ OwS t w' w.heap.size s' xs ∧ Below w.heap.size w w'

theorem kdR_sl {α : Type} {d : Kd α} {e : Nat} {w : World} {base : Nat} {ok : Nat → Prop} {v : Value} {xs : List α} (h : d.R e w base ok v xs) : ∃ s : SL, v = s.v xs.length := by
  obtain ⟨A, c, rfl⟩ := Kd.R_slice h
  exact ⟨⟨A, c⟩, rfl⟩

theorem r_empty {α : Type} (d : Kd α) (e : Nat) (w : World) : d.R e (w.alloc (.cells #[] e)) w.heap.size (fun _ => True) (.slice (some ⟨w.heap.size, 0, none⟩) 0 0) [] := by
  refine ⟨fun _ _ => trivial, [], ?_, ⟨by simp, fun j p h => by simp at h⟩⟩
  have := World.ownsRow_lit (base := w.heap.size) (e := e) (size := d.sz) w #[] 0 (Nat.le_refl _) (by simp) (by simp)
  simpa using this
theorem infoI : (Tryd.prog.info? 3).map (fun i => (i.zero, i.size, i.bytes)) = some (some (.int .i64 0), 1, 8) := by kernel_rfl
theorem info50 : (Tryd.prog.info? 50).map (fun i => (i.zero, i.size, i.bytes)) = some (some (.agg #[.int .i64 0, .int .i64 0]), 2, 16) := by kernel_rfl
theorem info54 : (Tryd.prog.info? 54).map (fun i => (i.zero, i.size, i.bytes)) = some (some (.agg #[.int .i64 0, .int .i64 0]), 2, 16) := by kernel_rfl
theorem info55 : (Tryd.prog.info? 55).map (fun i => (i.zero, i.size, i.bytes)) = some (some (.agg #[.int .i64 0, .int .i64 0]), 2, 16) := by kernel_rfl
theorem kP_flat {w w' : World} {base : Nat} {ok : Nat → Prop} {x : Int × Int} {cs : List Value} (h : kP.K w x cs) : kP.M w' base ok x cs := h
theorem kI_flat {w w' : World} {base : Nat} {ok : Nat → Prop} {x : Int} {cs : List Value} (h : kI.K w x cs) : kI.M w' base ok x cs := h

theorem cloneI_any (s : SL) (xs : List Int) (w : World) (h : RdI w s xs) (hl : xs.length ≤ 1000) : Calls Tryd.prog 30 #[s.v xs.length] w (ClI w xs) := by
  obtain ⟨A, c⟩ := s
  have hnil : ∀ w, (binOp .eql 22 (.slice A xs.length c) (.slice none 0 0)).run Tryd.prog w = .ok (.bool A.isNone) w := fun w => Lib.run_eql_slice_nil w 22 3 A xs.length c 0 0 Tryd.underlying22
  have H := Lib.hid h
  clear h
  unfold SL.v
  cases A with
  | none =>
    have h0 : xs = [] := by
      cases xs with
      | nil => rfl
      | cons x xs => obtain ⟨ad, h, _⟩ := H.out.at_ 0 (by simp); cases h
    subst h0
    have hnil2 : ∀ w, (binOp .eql 22 (.slice none 0 c) (.slice none 0 0)).run Tryd.prog w = .ok (.bool true) w := hnil
    clear hnil
    go_enter Tryd.func30, Tryd.ntmps30
    go_wp2
    go_ret
    exact ⟨⟨none, 0⟩, rfl, owI_nil _ _, Below.refl _ _⟩
  | some ad =>
    have hnil2 : ∀ w, (binOp .eql 22 (.slice (some ad) xs.length c) (.slice none 0 0)).run Tryd.prog w = .ok (.bool false) w := hnil
    clear hnil
    have HO := Lib.hid (r_empty kI 3 w)
    have HB := Lib.hid ((Below.refl w.heap.size w).alloc (Nat.le_refl _) (.cells #[] 3))
    have HR := Lib.hid (H.out.below HB.out).c
    go_enter Tryd.func30, Tryd.ntmps30
    go_wp2_with (at_builtin; refine Kd.R_append_rows kI (w0 := w) w.heap.size rfl (.tmp 5) (.tmp 6) 22 3 (.int .i64 0) 8 rfl Tryd.underlying22 infoI rfl (by decide) (by decide) _ [] xs (some ad) xs.length c (fun _ => True) (fun _ => False) rfl rfl HO.out HR.out (fun _ _ hk => kI_flat hk) (fun _ hk => hk.elim) (fun _ _ => trivial) HB.out (by simp) (by simp; omega) ?_; intro v1 w1 hR hB _ _; rw [List.nil_append] at hR; have HX := Lib.hid (And.intro hR hB); clear hR hB)
    obtain ⟨s', rfl⟩ := kdR_sl HX.out.1
    go_ret
    exact ⟨s', rfl, ⟨HX.out.1⟩, HX.out.2⟩

theorem cloneS_any (s : SL) (xs : List (Int × Int)) (w : World) (h : RdP w s xs) (hl : xs.length ≤ 1000) : Calls Tryd.prog 31 #[s.v xs.length] w (ClS 50 w xs) := by
  obtain ⟨A, c⟩ := s
  have hnil : ∀ w, (binOp .eql 23 (.slice A xs.length c) (.slice none 0 0)).run Tryd.prog w = .ok (.bool A.isNone) w := fun w => Lib.run_eql_slice_nil w 23 50 A xs.length c 0 0 Tryd.underlying23
  have H := Lib.hid h
  clear h
  unfold SL.v
  cases A with
  | none =>
    have h0 : xs = [] := by
      cases xs with
      | nil => rfl
      | cons x xs => obtain ⟨ad, h, _⟩ := H.out.at_ 0 (by simp); cases h
    subst h0
    have hnil2 : ∀ w, (binOp .eql 23 (.slice none 0 c) (.slice none 0 0)).run Tryd.prog w = .ok (.bool true) w := hnil
    clear hnil
    go_enter Tryd.func31, Tryd.ntmps31
    go_wp2
    go_ret
    exact ⟨⟨none, 0⟩, rfl, owS_nil _ _ _, Below.refl _ _⟩
  | some ad =>
    have hnil2 : ∀ w, (binOp .eql 23 (.slice (some ad) xs.length c) (.slice none 0 0)).run Tryd.prog w = .ok (.bool false) w := hnil
    clear hnil
    have HO := Lib.hid (r_empty kP 50 w)
    have HB := Lib.hid ((Below.refl w.heap.size w).alloc (Nat.le_refl _) (.cells #[] 50))
    have HR := Lib.hid (H.out.below HB.out).c
    go_enter Tryd.func31, Tryd.ntmps31
    go_wp2_with (at_builtin; refine Kd.R_append_rows kP (w0 := w) w.heap.size rfl (.tmp 5) (.tmp 6) 23 50 (.agg #[.int .i64 0, .int .i64 0]) 16 rfl Tryd.underlying23 info50 rfl (by decide) (by decide) _ [] xs (some ad) xs.length c (fun _ => True) (fun _ => False) rfl rfl HO.out HR.out (fun _ _ hk => kP_flat hk) (fun _ hk => hk.elim) (fun _ _ => trivial) HB.out (by simp) (by simp; omega) ?_; intro v1 w1 hR hB _ _; rw [List.nil_append] at hR; have HX := Lib.hid (And.intro hR hB); clear hR hB)
    obtain ⟨s', rfl⟩ := kdR_sl HX.out.1
    go_ret
    exact ⟨s', rfl, ⟨HX.out.1⟩, HX.out.2⟩

theorem cloneE_any (s : SL) (xs : List (Int × Int)) (w : World) (h : RdP w s xs) (hl : xs.length ≤ 1000) : Calls Tryd.prog 32 #[s.v xs.length] w (ClS 54 w xs) := by
  obtain ⟨A, c⟩ := s
  have hnil : ∀ w, (binOp .eql 24 (.slice A xs.length c) (.slice none 0 0)).run Tryd.prog w = .ok (.bool A.isNone) w := fun w => Lib.run_eql_slice_nil w 24 54 A xs.length c 0 0 Tryd.underlying24
  have H := Lib.hid h
  clear h
  unfold SL.v
  cases A with
  | none =>
    have h0 : xs = [] := by
      cases xs with
      | nil => rfl
      | cons x xs => obtain ⟨ad, h, _⟩ := H.out.at_ 0 (by simp); cases h
    subst h0
    have hnil2 : ∀ w, (binOp .eql 24 (.slice none 0 c) (.slice none 0 0)).run Tryd.prog w = .ok (.bool true) w := hnil
    clear hnil
    go_enter Tryd.func32, Tryd.ntmps32
    go_wp2
    go_ret
    exact ⟨⟨none, 0⟩, rfl, owS_nil _ _ _, Below.refl _ _⟩
  | some ad =>
    have hnil2 : ∀ w, (binOp .eql 24 (.slice (some ad) xs.length c) (.slice none 0 0)).run Tryd.prog w = .ok (.bool false) w := hnil
    clear hnil
    have HO := Lib.hid (r_empty kP 54 w)
    have HB := Lib.hid ((Below.refl w.heap.size w).alloc (Nat.le_refl _) (.cells #[] 54))
    have HR := Lib.hid (H.out.below HB.out).c
    go_enter Tryd.func32, Tryd.ntmps32
    go_wp2_with (at_builtin; refine Kd.R_append_rows kP (w0 := w) w.heap.size rfl (.tmp 5) (.tmp 6) 24 54 (.agg #[.int .i64 0, .int .i64 0]) 16 rfl Tryd.underlying24 info54 rfl (by decide) (by decide) _ [] xs (some ad) xs.length c (fun _ => True) (fun _ => False) rfl rfl HO.out HR.out (fun _ _ hk => kP_flat hk) (fun _ hk => hk.elim) (fun _ _ => trivial) HB.out (by simp) (by simp; omega) ?_; intro v1 w1 hR hB _ _; rw [List.nil_append] at hR; have HX := Lib.hid (And.intro hR hB); clear hR hB)
    obtain ⟨s', rfl⟩ := kdR_sl HX.out.1
    go_ret
    exact ⟨s', rfl, ⟨HX.out.1⟩, HX.out.2⟩
end Go.Proofs.YtedalanhjhiehaaDoor
