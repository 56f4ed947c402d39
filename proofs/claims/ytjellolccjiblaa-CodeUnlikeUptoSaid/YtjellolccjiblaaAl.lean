import Derived.Test.YtjellolccjiblaaRa
namespace Go.Proofs.Ytjellolccjiblaa
open Go.RowKit
open YtjellolccjiblaaW.PrintWords (nums own_slice bytesOf print_append_str bytesOf_length Kd)
open PCodeUnlike

theorem take_eq {α : Type} {xs ys : List α} {k : Nat} (h : xs.take k = ys.take k) (hx : xs.length = k) (hy : ys.length = k) : xs = ys := by
  rw [List.take_of_length_le (by omega), List.take_of_length_le (by omega)] at h
  exact h
theorem take_next {α : Type} {xs ys : List α} {k : Nat} {x : α} (h : xs.take k = ys.take k) (hx : xs[k]? = some x) (hy : ys[k]? = some x) : xs.take (k + 1) = ys.take (k + 1) := by
  rw [List.take_add_one, List.take_add_one, h, hx, hy]
theorem get_ne {α : Type} {xs ys : List α} {k : Nat} {x y : α} (hx : xs[k]? = some x) (hy : ys[k]? = some y) (hne : x ≠ y) : xs ≠ ys := by
  rintro rfl
  rw [hx] at hy
  exact hne (Option.some.inj hy)

def Says (w : World) (p : Prop) (e : Ending) (w' : World) : Prop := ∃ b : Bool, e = .returned (.bool b) ∧ (b = true ↔ p) ∧ Below w.heap.size w w'

theorem bytes_eq {a b : ByteArray} : a = b ↔ a.toList = b.toList := by
  refine ⟨fun h => by rw [h], fun h => ?_⟩
  rw [Go.ByteArray.toList_eq, Go.ByteArray.toList_eq] at h
  exact ByteArray.ext (Array.toList_inj.1 h)
theorem comp_ne (x y : S95) : x = y ↔ (x.f0 = y.f0 ∧ x.f1.f0 = y.f1.f0 ∧ x.f1.f1 = y.f1.f1 ∧ x.f1.f2 = y.f1.f2 ∧ x.f1.f3.toList = y.f1.f3.toList) := by
  obtain ⟨x0, x1, x2, x3, x4⟩ := x
  obtain ⟨y0, y1, y2, y3, y4⟩ := y
  simp [bytes_eq]

theorem ranged_eq (xs ys : List (List S95)) (A A' : Option Addr) (c c' n m : Nat) (w : World) (hn : xs.length = n) (hm : ys.length = m) (hC : Kd.C (Kd.slice 95 k95) w A n xs) (hC' : Kd.C (Kd.slice 95 k95) w A' m ys) (hl : n ≤ 1048576) (hl' : m ≤ 1048576) (hs : ∀ x ∈ xs, x.length ≤ 1048576) (hs' : ∀ x ∈ ys, x.length ≤ 1048576) :
    Calls Try.prog 23 #[.agg #[.slice A n c], .agg #[.slice A' m c']] w (Says w (xs = ys)) := by
  have HC := Lib.hid hC
  have HC' := Lib.hid hC'
  have HS := Lib.hid hs
  have HS' := Lib.hid hs'
  obtain ⟨wb, hwb⟩ : ∃ wb, wb = (w.alloc (.cells #[.slice A n c] 64)).alloc (.cells #[.slice A' m c'] 64) := ⟨_, rfl⟩
  have hbb : Below w.heap.size w wb := by rw [hwb]; exact ((Below.refl _ _).alloc (Nat.le_refl _) _).alloc (by simp) _
  have hh3 : wb.heap[w.heap.size + 1]? = some (.cells #[.slice A' m c'] 64 (0, 0)) := by
    have := heap_alloc_new (w.alloc (.cells #[.slice A n c] 64)) (.cells #[.slice A' m c'] 64)
    rw [hwb]; simpa using this
  have H3 := Lib.hid hh3
  have HB := Lib.hid hbb
  have HN := Lib.hid (And.intro hn hm)
  clear hC hC' hs hh3 hbb hn hm hs'
  by_cases hlen : n = m
  · subst hlen
    go_enter Try.func23, Try.ntmps23
    go_wp2_with fail
    rw [← hwb]
    go_loopw [19] (fun i wr => ∃ k : Nat, k ≤ n ∧ i = .int .i64 k ∧ xs.take k = ys.take k ∧ Below wb.heap.size wb wr) (fun i _ => n - (intOf i).toNat)
    case atStart => exact ⟨0, Nat.zero_le _, rfl, rfl, Below.refl _ _⟩
    case round =>
      obtain ⟨k, hk, rfl, htk, hbr⟩ := hrel
      have HT := Lib.hid htk
      have HBR := Lib.hid hbr
      clear htk
      by_cases hlt : k < n
      · have hxn := HN.out.1
        have hyn := HN.out.2
        obtain ⟨x, hx⟩ : ∃ x, xs[k]? = some x := ⟨_, List.getElem?_eq_getElem (by omega)⟩
        obtain ⟨y, hy⟩ : ∃ y, ys[k]? = some y := ⟨_, List.getElem?_eq_getElem (by omega)⟩
        have hbw := HB.out.trans (hbr.mono HB.out.size)
        obtain ⟨ad, A1, c1, rfl, f0, _, hK⟩ := at_L8 (Kd.C_below HC.out hbw) k (by omega) (by omega)
        obtain ⟨ad', A2, c2, rfl, f1, _, hK'⟩ := at_L8 (Kd.C_below HC'.out hbw) k (by omega) (by omega)
        have hrx : rd_L8 xs (k : Int) = x := by simp [rd_L8, hx]
        have hry : rd_L8 ys (k : Int) = y := by simp [rd_L8, hy]
        rw [hrx] at f0 hK
        rw [hry] at f1 hK'
        rw [Int.toNat_natCast] at f0 f1
        obtain ⟨p, hp⟩ : ∃ p, x.length = p := ⟨_, rfl⟩
        obtain ⟨q, hq⟩ : ∃ q, y.length = q := ⟨_, rfl⟩
        rw [hp] at f0 hK
        rw [hq] at f1 hK'
        have hp1 : p ≤ 1048576 := hp ▸ HS.out x (List.mem_of_getElem? hx)
        have f3 : wr.cell? ⟨w.heap.size + 1, 0, none⟩ = some (.slice (some ad') n c') := by rw [cell_at ((hbr.block _ (lt_of H3.out)).trans H3.out)]; rfl
        have HK := Lib.hid hK
        have HK' := Lib.hid hK'
        have HX := Lib.hid (And.intro hx (And.intro hy (And.intro hp hq)))
        clear hrx hry hK hK' hx hy hp hq hbr hxn hyn hbw
        by_cases hpq : p = q
        · subst hpq
          go_wp2_with fail
          go_loopw [35] (fun i wi => ∃ j : Nat, j ≤ p ∧ i = .int .i64 j ∧ x.take j = y.take j ∧ Below wr.heap.size wr wi) (fun i _ => p - (intOf i).toNat)
          case atStart => exact ⟨0, Nat.zero_le _, rfl, rfl, Below.refl _ _⟩
          case round =>
            obtain ⟨j, hj, rfl, htj, hbi⟩ := hrel
            have HTJ := Lib.hid htj
            have HBI := Lib.hid hbi
            clear htj
            by_cases hjt : j < p
            · have hxn := HX.out.2.2.1
              have hyn := HX.out.2.2.2
              obtain ⟨s, hsj⟩ : ∃ s, x[j]? = some s := ⟨_, List.getElem?_eq_getElem (by omega)⟩
              obtain ⟨t, htj⟩ : ∃ t, y[j]? = some t := ⟨_, List.getElem?_eq_getElem (by omega)⟩
              obtain ⟨ad2, rfl, s0, s1, s2, s3, s4⟩ := at_T95 (Kd.C_below HK.out hbi) j (by omega) (by omega)
              obtain ⟨ad3, rfl, t0, t1, t2, t3, t4⟩ := at_T95 (Kd.C_below HK'.out hbi) j (by omega) (by omega)
              have hrs : rd_T95 x (j : Int) = s := by simp [rd_T95, hsj]
              have hrt : rd_T95 y (j : Int) = t := by simp [rd_T95, htj]
              rw [hrs] at s0 s1 s2 s3 s4
              rw [hrt] at t0 t1 t2 t3 t4
              rw [Int.toNat_natCast] at s0 s1 s2 s3 s4 t0 t1 t2 t3 t4
              have f1i := (hbi.cell (World.block_lt_of_cell? _ _ f1)).trans f1
              have f3i := (hbi.cell (World.block_lt_of_cell? _ _ f3)).trans f3
              have HST := Lib.hid (And.intro hsj htj)
              clear hrs hrt hsj htj hbi hxn hyn
              go_wp2_with fail
              obtain ⟨wz, hwz⟩ : ∃ wz, wz = wr.alloc (.cells #[.int .i64 s.f0, .int .i64 s.f1.f0, .int .i64 s.f1.f1, .int .i64 s.f1.f2, .string s.f1.f3] 95) := ⟨_, rfl⟩
              have hz := heap_alloc_new wr (.cells #[.int .i64 s.f0, .int .i64 s.f1.f0, .int .i64 s.f1.f1, .int .i64 s.f1.f2, .string s.f1.f3] 95)
              rw [← hwz] at hz
              have z0 : wz.cell? ⟨wr.heap.size, 0, none⟩ = some (.int .i64 s.f0) := by rw [cell_at hz]; rfl
              have z1 : wz.cell? ⟨wr.heap.size, 1, none⟩ = some (.int .i64 s.f1.f0) := by rw [cell_at hz]; rfl
              have z2 : wz.cell? ⟨wr.heap.size, 2, none⟩ = some (.int .i64 s.f1.f1) := by rw [cell_at hz]; rfl
              have z3 : wz.cell? ⟨wr.heap.size, 3, none⟩ = some (.int .i64 s.f1.f2) := by rw [cell_at hz]; rfl
              have z4 : wz.cell? ⟨wr.heap.size, 4, none⟩ = some (.string s.f1.f3) := by rw [cell_at hz]; rfl
              have t0' := hwz ▸ pw_cell_alloc wr _ _ t0
              have t1' := hwz ▸ pw_cell_alloc wr _ _ t1
              have t2' := hwz ▸ pw_cell_alloc wr _ _ t2
              have t3' := hwz ▸ pw_cell_alloc wr _ _ t3
              have t4' := hwz ▸ pw_cell_alloc wr _ _ t4
              have f1z := hwz ▸ pw_cell_alloc wr _ _ f1i
              have f3z := hwz ▸ pw_cell_alloc wr _ _ f3i
              have HWZ := Lib.hid hwz
              have bz : Below wr.heap.size wr wz := hwz ▸ (Below.refl _ _).alloc (Nat.le_refl _) _
              have hno : s ≠ t → ∀ v, Says w (xs = ys) (.returned (.bool false)) (wz.drewN v) := fun hst v => by
                refine ⟨false, rfl, by simpa using get_ne HX.out.1 HX.out.2.1 (get_ne HST.out.1 HST.out.2 hst), ?_⟩
                have b1 := HBI.out.trans (bz.mono HBI.out.size)
                have b2 := HBR.out.trans (b1.mono HBR.out.size)
                have b3 := HB.out.trans (b2.mono HB.out.size)
                exact b3.trans (below_drewN' _ _)
              have HB1 := Lib.hid (HBI.out.trans (bz.mono HBI.out.size))
              have HNO := Lib.hid hno
              clear hno hz hwz s0 s1 s2 s3 s4 t0 t1 t2 t3 t4 f1i f3i bz
              rw [← HWZ.out]
              clear HWZ
              by_cases e0 : s.f0 = t.f0
              · by_cases e1 : s.f1.f0 = t.f1.f0
                · by_cases e2 : s.f1.f1 = t.f1.f1
                  · by_cases e3 : s.f1.f2 = t.f1.f2
                    · by_cases e4 : s.f1.f3.toList = t.f1.f3.toList
                      · have hst : s = t := (comp_ne s t).2 ⟨e0, e1, e2, e3, e4⟩
                        have HT2 := Lib.hid (take_next HTJ.out HST.out.1 (hst ▸ HST.out.2))
                        go_region
                        go_wp2
                        exact ⟨⟨j + 1, by omega, by go_num, HT2.out, HB1.out.trans (below_drewN' wz 1)⟩, by simp [intOf]; omega⟩
                      · have hst : s ≠ t := fun h => e4 ((comp_ne s t).1 h).2.2.2.2
                        go_region
                        go_wp2
                        refine bodyPost_ret (results_tmp rfl _ _ _) rfl ?_
                        exact HNO.out hst 1
                    · have hst : s ≠ t := fun h => e3 ((comp_ne s t).1 h).2.2.2.1
                      go_region
                      go_wp2
                      refine bodyPost_ret (results_tmp rfl _ _ _) rfl ?_
                      exact HNO.out hst 1
                  · have hst : s ≠ t := fun h => e2 ((comp_ne s t).1 h).2.2.1
                    go_region
                    go_wp2
                    refine bodyPost_ret (results_tmp rfl _ _ _) rfl ?_
                    exact HNO.out hst 1
                · have hst : s ≠ t := fun h => e1 ((comp_ne s t).1 h).2.1
                  go_region
                  go_wp2
                  refine bodyPost_ret (results_tmp rfl _ _ _) rfl ?_
                  exact HNO.out hst 1
              · have hst : s ≠ t := fun h => e0 ((comp_ne s t).1 h).1
                go_region
                go_wp2
                refine bodyPost_ret (results_tmp rfl _ _ _) rfl ?_
                exact HNO.out hst 1
            · have hxy : x = y := take_eq HTJ.out (by have := HX.out.2.2.1; omega) (by have := HX.out.2.2.2; omega)
              have HT2 := Lib.hid (And.intro (take_next HT.out HX.out.1 (hxy ▸ HX.out.2.1)) (HBR.out.trans (HBI.out.mono HBR.out.size)))
              clear hbi
              go_wp2
              exact ⟨⟨k + 1, by omega, by go_num, HT2.out⟩, by simp [intOf]; omega⟩
        · have hne : xs ≠ ys := get_ne HX.out.1 HX.out.2.1 (fun e => hpq (by rw [← HX.out.2.2.1, ← HX.out.2.2.2, e]))
          have hpq' : ¬ (p : Int) = q := by omega
          have HF := Lib.hid (show Says w (xs = ys) (.returned (.bool false)) wr from ⟨false, rfl, by simpa using hne, HB.out.trans (HBR.out.mono HB.out.size)⟩)
          go_wp2
          refine bodyPost_ret (results_tmp rfl _ _ _) rfl ?_
          exact HF.out
      · have hxy : xs = ys := take_eq HT.out (by have := HN.out.1; omega) (by have := HN.out.2; omega)
        have HF := Lib.hid (show Says w (xs = ys) (.returned (.bool true)) wr from ⟨true, rfl, by simpa using hxy, HB.out.trans (HBR.out.mono HB.out.size)⟩)
        clear hbr
        go_wp2
        refine bodyPost_ret (results_tmp rfl _ _ _) rfl ?_
        exact HF.out
  · have hne : xs ≠ ys := fun e => hlen (by rw [← HN.out.1, ← HN.out.2, e])
    have hle : ¬ (n : Int) = m := by omega
    have HF := Lib.hid (show Says w (xs = ys) (.returned (.bool false)) ((w.alloc (.cells #[.slice A n c] 64)).alloc (.cells #[.slice A' m c'] 64)) from ⟨false, rfl, by simpa using hne, hwb ▸ HB.out⟩)
    go_enter Try.func23, Try.ntmps23
    go_wp2
    refine bodyPost_ret (results_tmp rfl _ _ _) rfl ?_
    exact HF.out
end Go.Proofs.Ytjellolccjiblaa
