import Derived.Test.YtjellolccjiblaaAl
namespace Go.Proofs.Ytjellolccjiblaa
open Go.RowKit
open YtjellolccjiblaaW.PrintWords (nums own_slice bytesOf print_append_str bytesOf_length Kd)
open PCodeUnlike

def g64 (x : List (List S95)) : Prop := x.length ≤ 1048576 ∧ ∀ l ∈ x, l.length ≤ 1048576
def g68 (x : S68) : Prop := g64 x.f1.f0
def g56 (x : S56) : Prop := x.f2.length ≤ 1048576 ∧ ∀ y ∈ x.f2, g68 y
def g47 (x : S47) : Prop := x.f1.length ≤ 1048576 ∧ ∀ y ∈ x.f1, g56 y

theorem s68_ne (x y : S68) : x = y ↔ (x.f0 = y.f0 ∧ x.f1.f0 = y.f1.f0) := by
  obtain ⟨x0, ⟨x1⟩⟩ := x
  obtain ⟨y0, ⟨y1⟩⟩ := y
  simp
theorem s56_ne (x y : S56) : x = y ↔ (x.f0.f0 = y.f0.f0 ∧ x.f0.f1 = y.f0.f1 ∧ x.f0.f2 = y.f0.f2 ∧ x.f0.f3.toList = y.f0.f3.toList ∧ x.f1 = y.f1 ∧ x.f2 = y.f2) := by
  obtain ⟨⟨x0, x1, x2, x3⟩, x4, x5⟩ := x
  obtain ⟨⟨y0, y1, y2, y3⟩, y4, y5⟩ := y
  simp [bytes_eq, and_assoc]
theorem s47_ne (x y : S47) : x = y ↔ (x.f0.toList = y.f0.toList ∧ x.f1 = y.f1) := by
  obtain ⟨x0, x1⟩ := x
  obtain ⟨y0, y1⟩ := y
  simp [bytes_eq]

set_option maxHeartbeats 4000000 in
set_option maxRecDepth 100000 in
theorem alike_eq (xs ys : List S47) (A A' : Option Addr) (c c' n m : Nat) (w : World) (hn : xs.length = n) (hm : ys.length = m) (hC : Kd.C k47 w A n xs) (hC' : Kd.C k47 w A' m ys) (hl : n ≤ 1048576) (hl' : m ≤ 1048576) (hs : ∀ x ∈ xs, g47 x) (hs' : ∀ x ∈ ys, g47 x) :
    Calls Try.prog 8 #[.agg #[.slice A n c], .agg #[.slice A' m c']] w (Says w (xs = ys)) := by
  have HC := Lib.hid hC
  have HC' := Lib.hid hC'
  have HS := Lib.hid hs
  have HS' := Lib.hid hs'
  obtain ⟨wb, hwb⟩ : ∃ wb, wb = (w.alloc (.cells #[.slice A n c] 28)).alloc (.cells #[.slice A' m c'] 28) := ⟨_, rfl⟩
  have hbb : Below w.heap.size w wb := by rw [hwb]; exact ((Below.refl _ _).alloc (Nat.le_refl _) _).alloc (by simp) _
  have hh3 : wb.heap[w.heap.size + 1]? = some (.cells #[.slice A' m c'] 28 (0, 0)) := by
    have := heap_alloc_new (w.alloc (.cells #[.slice A n c] 28)) (.cells #[.slice A' m c'] 28)
    rw [hwb]; simpa using this
  have H3 := Lib.hid hh3
  have HB := Lib.hid hbb
  have HN := Lib.hid (And.intro hn hm)
  clear hC hC' hs hh3 hbb hn hm hs'
  by_cases hlen : n = m
  · subst hlen
    go_enter Try.func8, Try.ntmps8
    go_wp2_with fail
    rw [← hwb]
    go_loopw [23] (fun i wr => ∃ k : Nat, k ≤ n ∧ i = .int .i64 k ∧ xs.take k = ys.take k ∧ Below wb.heap.size wb wr) (fun i _ => n - (intOf i).toNat)
    case atStart => exact ⟨0, Nat.zero_le _, rfl, rfl, Below.refl _ _⟩
    case round =>
      obtain ⟨k, hk, rfl, htk, hbr⟩ := hrel
      have HT := Lib.hid htk
      have HBR := Lib.hid (HB.out.trans (hbr.mono HB.out.size))
      have HBB := Lib.hid hbr
      clear htk
      by_cases hlt : k < n
      · have hxn := HN.out.1
        have hyn := HN.out.2
        obtain ⟨x, hx⟩ : ∃ x, xs[k]? = some x := ⟨_, List.getElem?_eq_getElem (by omega)⟩
        obtain ⟨y, hy⟩ : ∃ y, ys[k]? = some y := ⟨_, List.getElem?_eq_getElem (by omega)⟩
        obtain ⟨ad, A1, c1, rfl, f0, f1, _, hK⟩ := at_T47 (Kd.C_below HC.out HBR.out) k (by omega) (by omega)
        obtain ⟨ad', A2, c2, rfl, f2, f3, _, hK'⟩ := at_T47 (Kd.C_below HC'.out HBR.out) k (by omega) (by omega)
        have hrx : rd_T47 xs (k : Int) = x := by simp [rd_T47, hx]
        have hry : rd_T47 ys (k : Int) = y := by simp [rd_T47, hy]
        rw [hrx] at f0 f1 hK
        rw [hry] at f2 f3 hK'
        rw [Int.toNat_natCast] at f0 f1 f2 f3
        obtain ⟨p, hp⟩ : ∃ p, x.f1.length = p := ⟨_, rfl⟩
        obtain ⟨q, hq⟩ : ∃ q, y.f1.length = q := ⟨_, rfl⟩
        rw [hp] at f1 hK
        rw [hq] at f3 hK'
        have hgx := HS.out x (List.mem_of_getElem? hx)
        have hgy := HS'.out y (List.mem_of_getElem? hy)
        have hp1 : p ≤ 1048576 := hp ▸ hgx.1
        have hg3 : wr.cell? ⟨w.heap.size + 1, 0, none⟩ = some (.slice (some ad') n c') := by rw [cell_at ((hbr.block _ (lt_of H3.out)).trans H3.out)]; rfl
        have hg3' := fun o => pw_cell_alloc wr o _ hg3
        have f2' := fun o => pw_cell_alloc wr o _ f2
        have f3' := fun o => pw_cell_alloc wr o _ f3
        have HK := Lib.hid hK
        have HK' := Lib.hid hK'
        have HX := Lib.hid (And.intro hx (And.intro hy (And.intro hp (And.intro hq (And.intro hgx hgy)))))
        obtain ⟨w2, hw2⟩ : ∃ w2, w2 = (wr.alloc (.cells #[.string x.f0, .slice A1 p c1] 47)).alloc (.cells #[.string y.f0, .slice A2 q c2] 47) := ⟨_, rfl⟩
        have hb2 : Below wr.heap.size wr w2 := by rw [hw2]; exact ((Below.refl _ _).alloc (Nat.le_refl _) _).alloc (by simp) _
        have HB2 := Lib.hid hb2
        have HB2w := Lib.hid (HBR.out.trans (hb2.mono HBR.out.size))
        have HB2b := Lib.hid (HBB.out.trans (hb2.mono HBB.out.size))
        have hh7 : w2.heap[wr.heap.size + 1]? = some (.cells #[.string y.f0, .slice A2 q c2] 47 (0, 0)) := by
          have := heap_alloc_new (wr.alloc (.cells #[.string x.f0, .slice A1 p c1] 47)) (.cells #[.string y.f0, .slice A2 q c2] 47)
          rw [hw2]; simpa using this
        have H7 := Lib.hid hh7
        clear hrx hry hK hK' hx hy hp hq hbr hxn hyn hgx hgy hg3 hb2 hh7
        by_cases hnm : x.f0.toList = y.f0.toList
        · by_cases hpq : p = q
          · subst hpq
            go_wp2_with fail
            rw [← hw2]
            go_loopw [50] (fun i wi => ∃ j : Nat, j ≤ p ∧ i = .int .i64 j ∧ x.f1.take j = y.f1.take j ∧ Below w2.heap.size w2 wi) (fun i _ => p - (intOf i).toNat)
            case atStart => exact ⟨0, Nat.zero_le _, rfl, rfl, Below.refl _ _⟩
            case round =>
              obtain ⟨j, hj, rfl, htj, hbi⟩ := hrel
              have HTJ := Lib.hid htj
              have HBI2 := Lib.hid hbi
              have HBIr := Lib.hid (HB2.out.trans (hbi.mono HB2.out.size))
              have HBIw := Lib.hid (HB2w.out.trans (hbi.mono HB2w.out.size))
              have f7 := (cell_at ((hbi.block _ (lt_of H7.out)).trans H7.out) 1).trans (show _ = some (Value.slice A2 p c2) from rfl)
              clear htj f0 f1 f2 f3 hg3' f2' f3'
              by_cases hjt : j < p
              · have hxn := HX.out.2.2.1
                have hyn := HX.out.2.2.2.1
                obtain ⟨s, hsj⟩ : ∃ s, x.f1[j]? = some s := ⟨_, List.getElem?_eq_getElem (by omega)⟩
                obtain ⟨t, htj⟩ : ∃ t, y.f1[j]? = some t := ⟨_, List.getElem?_eq_getElem (by omega)⟩
                obtain ⟨ad2, B1, d1, rfl, s0, s1, s2, s3, s4, s5, _, hL⟩ := at_T56 (Kd.C_below HK.out HBIr.out) j (by omega) (by omega)
                obtain ⟨ad3, B2, d2, rfl, t0, t1, t2, t3, t4, t5, _, hL'⟩ := at_T56 (Kd.C_below HK'.out HBIr.out) j (by omega) (by omega)
                have hrs : rd_T56 x.f1 (j : Int) = s := by simp [rd_T56, hsj]
                have hrt : rd_T56 y.f1 (j : Int) = t := by simp [rd_T56, htj]
                rw [hrs] at s0 s1 s2 s3 s4 s5 hL
                rw [hrt] at t0 t1 t2 t3 t4 t5 hL'
                rw [Int.toNat_natCast] at s0 s1 s2 s3 s4 s5 t0 t1 t2 t3 t4 t5
                obtain ⟨g, hgl⟩ : ∃ g, s.f2.length = g := ⟨_, rfl⟩
                obtain ⟨h, hhl⟩ : ∃ h, t.f2.length = h := ⟨_, rfl⟩
                rw [hgl] at s5 hL
                rw [hhl] at t5 hL'
                have hgs := HX.out.2.2.2.2.1.2 s (List.mem_of_getElem? hsj)
                have hgt := HX.out.2.2.2.2.2.2 t (List.mem_of_getElem? htj)
                have hg1 : g ≤ 1048576 := hgl ▸ hgs.1
                have f7' := fun o => pw_cell_alloc wr o _ f7
                have t0' := fun o => pw_cell_alloc wr o _ t0
                have t1' := fun o => pw_cell_alloc wr o _ t1
                have t2' := fun o => pw_cell_alloc wr o _ t2
                have t3' := fun o => pw_cell_alloc wr o _ t3
                have t4' := fun o => pw_cell_alloc wr o _ t4
                have t5' := fun o => pw_cell_alloc wr o _ t5
                have HL := Lib.hid hL
                have HL' := Lib.hid hL'
                have HST := Lib.hid (And.intro hsj (And.intro htj (And.intro hgl (And.intro hhl (And.intro hgs hgt)))))
                obtain ⟨w4, hw4⟩ : ∃ w4, w4 = (wr.alloc (.cells #[.int .i64 s.f0.f0, .int .i64 s.f0.f1, .int .i64 s.f0.f2, .string s.f0.f3, .int .i64 s.f1, .slice B1 g d1] 56)).alloc (.cells #[.int .i64 t.f0.f0, .int .i64 t.f0.f1, .int .i64 t.f0.f2, .string t.f0.f3, .int .i64 t.f1, .slice B2 h d2] 56) := ⟨_, rfl⟩
                have hb4 : Below wr.heap.size wr w4 := by rw [hw4]; exact ((Below.refl _ _).alloc (Nat.le_refl _) _).alloc (by simp) _
                have HB4 := Lib.hid hb4
                have HB4w := Lib.hid (HBIw.out.trans (hb4.mono HBIw.out.size))
                have HB42 := Lib.hid (HBI2.out.trans (hb4.mono HBI2.out.size))
                have hh10 : w4.heap[wr.heap.size + 1]? = some (.cells #[.int .i64 t.f0.f0, .int .i64 t.f0.f1, .int .i64 t.f0.f2, .string t.f0.f3, .int .i64 t.f1, .slice B2 h d2] 56 (0, 0)) := by
                  have := heap_alloc_new (wr.alloc (.cells #[.int .i64 s.f0.f0, .int .i64 s.f0.f1, .int .i64 s.f0.f2, .string s.f0.f3, .int .i64 s.f1, .slice B1 g d1] 56)) (.cells #[.int .i64 t.f0.f0, .int .i64 t.f0.f1, .int .i64 t.f0.f2, .string t.f0.f3, .int .i64 t.f1, .slice B2 h d2] 56)
                  rw [hw4]; simpa using this
                have H10 := Lib.hid hh10
                have HNO := Lib.hid (show s ≠ t → ∀ wq, wq = w4 → Says w (xs = ys) (.returned (.bool false)) wq from fun hst wq hq => ⟨false, rfl, by simpa using get_ne HX.out.1 HX.out.2.1 (fun e => get_ne HST.out.1 HST.out.2.1 hst (by rw [e])), hq ▸ HB4w.out⟩)
                have HW4 := Lib.hid hw4
                clear hrs hrt hL hL' hsj htj hgl hhl hxn hyn hgs hgt hb4 hh10 hbi f7 hw4
                by_cases e0 : s.f0.f0 = t.f0.f0
                · by_cases e1 : s.f0.f1 = t.f0.f1
                  · by_cases e2 : s.f0.f2 = t.f0.f2
                    · by_cases e3 : s.f0.f3.toList = t.f0.f3.toList
                      · by_cases e4 : s.f1 = t.f1
                        · by_cases e5 : g = h
                          · subst e5
                            go_wp2_with fail
                            have hw := HW4.out
                            simp only [e0, e1, e2, e4] at hw
                            rw [← hw]
                            have HS4 := Lib.hid (And.intro e3 (And.intro hnm HW4.out))
                            clear e3 hnm hw
                            go_loopw [84] (fun i wi => ∃ l : Nat, l ≤ g ∧ i = .int .i64 l ∧ s.f2.take l = t.f2.take l ∧ Below w4.heap.size w4 wi) (fun i _ => g - (intOf i).toNat)
                            case atStart => exact ⟨0, Nat.zero_le _, rfl, rfl, Below.refl _ _⟩
                            case round =>
                              obtain ⟨l, hl0, rfl, htl, hbl⟩ := hrel
                              have HTL := Lib.hid htl
                              have HBL4 := Lib.hid hbl
                              have HBLr := Lib.hid (HB4.out.trans (hbl.mono HB4.out.size))
                              have HBLw := Lib.hid (HB4w.out.trans (hbl.mono HB4w.out.size))
                              have f10 := (cell_at ((hbl.block _ (lt_of H10.out)).trans H10.out) 5)
                              clear htl
                              by_cases hlt4 : l < g
                              · have hxn := HST.out.2.2.1
                                have hyn := HST.out.2.2.2.1
                                obtain ⟨a, haj⟩ : ∃ a, s.f2[l]? = some a := ⟨_, List.getElem?_eq_getElem (by omega)⟩
                                obtain ⟨b, hbj⟩ : ∃ b, t.f2[l]? = some b := ⟨_, List.getElem?_eq_getElem (by omega)⟩
                                obtain ⟨ad4, D1, m1, rfl, a0, a1, _, hM⟩ := at_T68 (Kd.C_below HL.out HBLr.out) l (by omega) (by omega)
                                obtain ⟨ad5, D2, m2, rfl, b0, b1, _, hM'⟩ := at_T68 (Kd.C_below HL'.out HBLr.out) l (by omega) (by omega)
                                have hra : rd_T68 s.f2 (l : Int) = a := by simp [rd_T68, haj]
                                have hrb : rd_T68 t.f2 (l : Int) = b := by simp [rd_T68, hbj]
                                rw [hra] at a0 a1 hM
                                rw [hrb] at b0 b1 hM'
                                rw [Int.toNat_natCast] at a0 a1 b0 b1
                                have f10 := f10.trans (by simp : _ = some (Value.slice (some ad5) g d2))
                                have hga := HST.out.2.2.2.2.1.2 a (List.mem_of_getElem? haj)
                                have hgb := HST.out.2.2.2.2.2.2 b (List.mem_of_getElem? hbj)
                                have HAB := Lib.hid (And.intro haj (And.intro hbj (And.intro hga hgb)))
                                have HM := Lib.hid hM
                                have HM' := Lib.hid hM'
                                clear hra hrb haj hbj hga hgb hxn hyn hM hM' hbl
                                go_wp2_with fail
                                obtain ⟨w5, hw5⟩ : ∃ w5, w5 = wr.alloc (.cells #[.int .i64 a.f0, .slice D1 a.f1.f0.length m1] 68) := ⟨_, rfl⟩
                                have hz := heap_alloc_new wr (.cells #[.int .i64 a.f0, .slice D1 a.f1.f0.length m1] 68)
                                rw [← hw5] at hz
                                have z0 : w5.cell? ⟨wr.heap.size, 0, none⟩ = some (.int .i64 a.f0) := by rw [cell_at hz]; rfl
                                have z1 : w5.cell? ⟨wr.heap.size, 1, none⟩ = some (.slice D1 a.f1.f0.length m1) := by rw [cell_at hz]; rfl
                                have b0' := hw5 ▸ pw_cell_alloc wr _ _ b0
                                have b1' := hw5 ▸ pw_cell_alloc wr _ _ b1
                                have f10' := hw5 ▸ pw_cell_alloc wr _ _ f10
                                have HW5 := Lib.hid hw5
                                have bz : Below wr.heap.size wr w5 := hw5 ▸ (Below.refl _ _).alloc (Nat.le_refl _) _
                                have hmd := Kd.C_below HM.out (bz.trans (below_drewN' w5 1))
                                have hmd' := Kd.C_below HM'.out (bz.trans (below_drewN' w5 1))
                                have HR := Lib.hid (ranged_eq a.f1.f0 b.f1.f0 D1 D2 m1 m2 a.f1.f0.length b.f1.f0.length (w5.drewN 1) rfl rfl hmd hmd' HAB.out.2.2.1.1 HAB.out.2.2.2.1 HAB.out.2.2.1.2 HAB.out.2.2.2.2)
                                have HQ4 := Lib.hid (HBL4.out.trans (bz.mono HBL4.out.size))
                                have HQw := Lib.hid (HBLw.out.trans (bz.mono HBLw.out.size))
                                have HNO2 := Lib.hid (show a ≠ b → ∀ wq, Below w5.heap.size w5 wq → Says w (xs = ys) (.returned (.bool false)) wq from fun hab wq hq => ⟨false, rfl, by simpa using get_ne HX.out.1 HX.out.2.1 (fun e => get_ne HST.out.1 HST.out.2.1 (fun e' => get_ne HAB.out.1 HAB.out.2.1 hab (by rw [e'])) (by rw [e])), HQw.out.trans (hq.mono HQw.out.size)⟩)
                                rw [← HW5.out]
                                clear hz hw5 bz hmd hmd' a0 a1 b0 b1 f10 HW5
                                obtain ⟨u, hu⟩ : ∃ u, a.f0 = u := ⟨_, rfl⟩
                                obtain ⟨v, hv⟩ : ∃ v, b.f0 = v := ⟨_, rfl⟩
                                rw [hu] at z0 ⊢
                                rw [hv] at b0'
                                have HUV := Lib.hid (And.intro hu hv)
                                clear hu hv
                                by_cases hab : u = v
                                · subst hab
                                  have hd : (u != u) = false := by simp
                                  go_region_with (go_at_call 23; go_loud (refine HR.out.mono ?_); rintro e wq ⟨bb, rfl, hbb, hbq⟩; have HBQ := Lib.hid (And.intro hbb hbq); clear hbb hbq)
                                  all_goals cases bb with
                                    | true =>
                                      have hE : a = b := (s68_ne a b).2 ⟨by rw [HUV.out.1, HUV.out.2], HBQ.out.1.1 rfl⟩
                                      have HT2 := Lib.hid (And.intro (take_next HTL.out HAB.out.1 (hE ▸ HAB.out.2.1)) (HQ4.out.trans (((below_drewN' w5 1).trans HBQ.out.2).mono HQ4.out.size)))
                                      clear hE
                                      go_wp2
                                      exact ⟨⟨l + 1, by omega, by go_num, HT2.out⟩, by simp [intOf]; omega⟩
                                    | false =>
                                      have HT2 := Lib.hid (HNO2.out (fun e => by simpa using HBQ.out.1.2 (by rw [e])) _ ((below_drewN' w5 1).trans HBQ.out.2))
                                      go_wp2
                                      refine bodyPost_ret (results_tmp rfl _ _ _) rfl ?_
                                      exact HT2.out
                                · have hd : (u != v) = true := by simpa using hab
                                  have hd' : (u == v) = false := by simpa using hab
                                  have HT2 := Lib.hid (HNO2.out (fun e => hab (by rw [← HUV.out.1, ← HUV.out.2, e])) _ (below_drewN' w5 1))
                                  go_region
                                  go_wp2
                                  refine bodyPost_ret (results_tmp rfl _ _ _) rfl ?_
                                  exact HT2.out
                              · have hst : s = t := (s56_ne s t).2 ⟨e0, e1, e2, HS4.out.1, e4, take_eq HTL.out (by have := HST.out.2.2.1; omega) (by have := HST.out.2.2.2.1; omega)⟩
                                have HT2 := Lib.hid (And.intro (take_next HTJ.out HST.out.1 (hst ▸ HST.out.2.1)) (HB42.out.trans (HBL4.out.mono HB42.out.size)))
                                clear hst hbl f10
                                go_wp2
                                exact ⟨⟨j + 1, by omega, by go_num, HT2.out⟩, by simp [intOf]; omega⟩
                          · have hst : s ≠ t := fun e => e5 (by rw [← HST.out.2.2.1, ← HST.out.2.2.2.1, e])
                            go_wp2
                            refine bodyPost_ret (results_tmp rfl _ _ _) rfl ?_
                            exact HNO.out hst _ (by rw [HW4.out]; simp only [e0, e1, e2, e4])
                        · have hst : s ≠ t := fun e => e4 ((s56_ne s t).1 e).2.2.2.2.1
                          go_wp2
                          refine bodyPost_ret (results_tmp rfl _ _ _) rfl ?_
                          exact HNO.out hst _ (by rw [HW4.out]; simp only [e0, e1, e2])
                      · have hst : s ≠ t := fun e => e3 ((s56_ne s t).1 e).2.2.2.1
                        go_wp2
                        refine bodyPost_ret (results_tmp rfl _ _ _) rfl ?_
                        exact HNO.out hst _ (by rw [HW4.out]; simp only [e0, e1, e2])
                    · have hst : s ≠ t := fun e => e2 ((s56_ne s t).1 e).2.2.1
                      go_wp2
                      refine bodyPost_ret (results_tmp rfl _ _ _) rfl ?_
                      exact HNO.out hst _ (by rw [HW4.out]; simp only [e0, e1])
                  · have hst : s ≠ t := fun e => e1 ((s56_ne s t).1 e).2.1
                    go_wp2
                    refine bodyPost_ret (results_tmp rfl _ _ _) rfl ?_
                    exact HNO.out hst _ (by rw [HW4.out]; simp only [e0])
                · have hst : s ≠ t := fun e => e0 ((s56_ne s t).1 e).1
                  go_wp2
                  refine bodyPost_ret (results_tmp rfl _ _ _) rfl ?_
                  exact HNO.out hst _ (by rw [HW4.out])
              · have hxy : x = y := (s47_ne x y).2 ⟨hnm, take_eq HTJ.out (by have := HX.out.2.2.1; omega) (by have := HX.out.2.2.2.1; omega)⟩
                have HT2 := Lib.hid (And.intro (take_next HT.out HX.out.1 (hxy ▸ HX.out.2.1)) (HB2b.out.trans (HBI2.out.mono HB2b.out.size)))
                clear hbi hxy hnm
                go_wp2
                exact ⟨⟨k + 1, by omega, by go_num, HT2.out⟩, by simp [intOf]; omega⟩
          · have hne : xs ≠ ys := get_ne HX.out.1 HX.out.2.1 (fun e => hpq (by rw [← HX.out.2.2.1, ← HX.out.2.2.2.1, e]))
            have HF := Lib.hid (show Says w (xs = ys) (.returned (.bool false)) w2 from ⟨false, rfl, by simpa using hne, HB2w.out⟩)
            rw [hw2] at HF
            go_wp2
            refine bodyPost_ret (results_tmp rfl _ _ _) rfl ?_
            exact HF.out
        · have hne : xs ≠ ys := get_ne HX.out.1 HX.out.2.1 (fun e => hnm (by rw [e]))
          have HF := Lib.hid (show Says w (xs = ys) (.returned (.bool false)) w2 from ⟨false, rfl, by simpa using hne, HB2w.out⟩)
          rw [hw2] at HF
          go_wp2
          refine bodyPost_ret (results_tmp rfl _ _ _) rfl ?_
          exact HF.out
      · have hxy : xs = ys := take_eq HT.out (by have := HN.out.1; omega) (by have := HN.out.2; omega)
        have HF := Lib.hid (show Says w (xs = ys) (.returned (.bool true)) wr from ⟨true, rfl, by simpa using hxy, HBR.out⟩)
        clear hbr
        go_wp2
        refine bodyPost_ret (results_tmp rfl _ _ _) rfl ?_
        exact HF.out
  · have hne : xs ≠ ys := fun e => hlen (by rw [← HN.out.1, ← HN.out.2, e])
    have hle : ¬ (n : Int) = m := by omega
    have HF := Lib.hid (show Says w (xs = ys) (.returned (.bool false)) ((w.alloc (.cells #[.slice A n c] 28)).alloc (.cells #[.slice A' m c'] 28)) from ⟨false, rfl, by simpa using hne, hwb ▸ HB.out⟩)
    go_enter Try.func8, Try.ntmps8
    go_wp2
    refine bodyPost_ret (results_tmp rfl _ _ _) rfl ?_
    exact HF.out
end Go.Proofs.Ytjellolccjiblaa
