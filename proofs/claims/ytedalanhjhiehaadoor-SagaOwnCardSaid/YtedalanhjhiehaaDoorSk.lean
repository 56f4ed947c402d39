import Derived.Test.YtedalanhjhiehaaDoorSj
set_option linter.unusedSimpArgs false
set_option linter.unusedVariables false
namespace Go.Proofs.YtedalanhjhiehaaDoor
open Go.RowKit
open YtedalanhjhiehaaDoorW.PrintWords (nums ReadsInt rd own_slice own_typed Kd)

set_option maxHeartbeats 1000000 in
set_option maxRecDepth 100000 in
theorem sagaOwn_no (sl : SL) (rs : List RecP) (w : World) (h : RdR w sl rs) (hT : Tab w) (hs : smallL rs 40 = false) : Calls Tryd.prog 4 #[sl.v rs.length] w (Ret w (.bool true)) := by
  have H := Lib.hid h
  have HT := Lib.hid hT
  have HS := Lib.hid hs
  have HA := Lib.hid (anchor_any w hT)
  clear h hT hs
  unfold SL.v
  go_enter Tryd.func4, Tryd.ntmps4
  go_wp2_with (first | (go_at_call 5; refine HA.out.mono ?_; rintro e wA ⟨rfl, hb⟩; have HB := Lib.hid hb; clear hb) | (go_at_call 13; refine (small_any sl rs 40 wA (H.out.below HB.out)).mono ?_; rw [HS.out]; rintro e wB ⟨rfl, hb⟩; have HB2 := Lib.hid (HB.out.trans (hb.mono HB.out.size)); clear hb))
  go_ret
  exact ⟨rfl, HB2.out⟩

set_option maxHeartbeats 8000000 in
set_option maxRecDepth 100000 in
theorem sagaOwn_yes (sl : SL) (rs : List RecP) (w : World) (h : RdR w sl rs) (hT : Tab w) (hs : smallL rs 40 = true) : Calls Tryd.prog 4 #[sl.v rs.length] w (Ret w (.bool true)) := by
  obtain ⟨A, cp⟩ := sl
  obtain ⟨S, n, e, hx⟩ : ∃ S n e, rplG noState 0 rs = (S, n, e) := ⟨_, _, _, rfl⟩
  obtain ⟨hall, h40⟩ := smallL_all hs
  have hnl : n ≤ rs.length := by have := rplG_le rs noState 0; rw [hx] at this; simpa using this
  have hle : rs.length ≤ cp := h.le
  have H := Lib.hid h
  have HT := Lib.hid hT
  have HS := Lib.hid hs
  have HX := Lib.hid hx
  have HALL := Lib.hid hall
  have HA := Lib.hid (anchor_any w hT)
  clear h hT hs hx hall
  unfold SL.v
  go_enter Tryd.func4, Tryd.ntmps4
  go_upto_region 7 with (first | (go_at_call 5; refine HA.out.mono ?_; rintro e0 wA ⟨rfl, hb⟩; have HB := Lib.hid hb; clear hb) | (go_at_call 13; refine (small_any ⟨A, cp⟩ rs 40 wA (H.out.below HB.out)).mono ?_; rw [HS.out]; rintro e0 wB ⟨rfl, hb⟩; have HB2 := Lib.hid (HB.out.trans (hb.mono HB.out.size)); clear hb) | (go_at_call 14; refine (replay_any ⟨A, cp⟩ rs wB (H.out.below HB2.out) (fun r hr => smallB_of (HALL.out r hr)) (by omega) (HT.out.below HB2.out)).mono ?_; unfold RpP; rw [HX.out]; rintro e0 wC ⟨vS, rfl, ho, hb⟩; have HC0 := Lib.hid (And.intro ho (HB2.out.trans (hb.mono HB2.out.size))); clear ho hb))
  have hvS : ∃ V, V = stV vS S := ⟨_, rfl⟩
  obtain ⟨w1, hw1⟩ : ∃ w1, w1 = (wC.alloc (.cells (stCells vS S) 34)).alloc (.cells stZero 34) := ⟨_, rfl⟩
  have hb1 : Below wC.heap.size wC w1 := by rw [hw1]; exact below_of_alloc2 _ _ _
  have hx1 : w1.heap[wC.heap.size]? = some (.cells (stCells vS S) 34 (0, 0)) := by rw [hw1]; exact alloc2_fst _ _ _
  have hy1 : w1.heap[wC.heap.size + 1]? = some (.cells (stCells nilV noState) 34 (0, 0)) := by rw [hw1]; exact alloc2_snd _ _ _
  have HW1 := Lib.hid (And.intro hb1 (And.intro hx1 hy1))
  unfold stCells stZero SL.v at hw1
  try rw [← hw1]
  clear hw1 hb1 hx1 hy1 hvS
  go_upto_region 7 with (fail)
  have hnc : n ≤ cp := by omega
  go_wp2
  go_loopw [33] (fun i wr => ∃ (k : Nat) (v : SV) (t : StateP), k ≤ n ∧ i = .int .i64 k ∧ Hid (wr.heap[wC.heap.size + 1]? = some (.cells (stCells v t) 34 (0, 0))) ∧ Hid (OwSt wr (wC.heap.size + 2) v t) ∧ Hid (Below (wC.heap.size + 1) w1 wr) ∧ Hid (Sz k t) ∧ Hid (rplG t k (rs.drop k) = (S, n, e)) ∧ Hid (smallB t.plan = true)) (fun i _ => n - (intOf i).toNat)
  case atStart => exact ⟨0, nilV, noState, Nat.zero_le _, rfl, Lib.hid HW1.out.2.2, Lib.hid (owSt_nil _ _), Lib.hid (Below.refl _ _), Lib.hid Sz.none, Lib.hid HX.out, Lib.hid (by decide)⟩
  case round =>
    obtain ⟨k, v, t, hk, rfl, HC, HO, HB, HZ, HG, HP⟩ := hrel
    obtain ⟨⟨pf, pt, ⟨Ap, cq⟩, pb⟩, ⟨Ao, co⟩, ⟨Ad, cd⟩⟩ := v
    rename World => wo
    have hlt1 := lt_of HC.out
    have hbC : Below wC.heap.size wC wo := HW1.out.1.trans (HB.out.mono (Nat.le_succ _))
    have HBC := Lib.hid hbC
    have HBw : Hid (Below w.heap.size w wo) := Lib.hid (HC0.out.2.trans (hbC.mono HC0.out.2.size))
    clear hbC
    by_cases hkn : k < n
    · obtain ⟨hlt, t', hx', hg'⟩ := rplG_more HG.out hkn
      have HX' := Lib.hid (And.intro hx' hg')
      clear hx' hg'
      obtain ⟨ad, u, he, hu, r0, r1, r2, r3, r4, r5⟩ := (H.out.below HBw.out).at_ k hlt
      obtain rfl : A = some ad := he
      obtain ⟨w4, hw4⟩ : ∃ w4, w4 = (wo.alloc (.cells (recCells u rs[k]) 39)).alloc (.cells #[.slice u.f.a rs[k].plan.fr.length u.f.c, .slice u.t.a rs[k].plan.tt.length u.t.c, .slice u.s.a rs[k].plan.steps.length u.s.c, .slice u.b.a rs[k].plan.before.length u.b.c] 26) := ⟨_, rfl⟩
      have b4 : Below wo.heap.size wo w4 := by rw [hw4]; exact below_of_alloc2 _ _ _
      have x4 : w4.heap[wo.heap.size]? = some (.cells (recCells u rs[k]) 39 (0, 0)) := by rw [hw4]; exact alloc2_fst _ _ _
      have y4 : w4.heap[wo.heap.size + 1]? = some (.cells #[.slice u.f.a rs[k].plan.fr.length u.f.c, .slice u.t.a rs[k].plan.tt.length u.t.c, .slice u.s.a rs[k].plan.steps.length u.s.c, .slice u.b.a rs[k].plan.before.length u.b.c] 26 (0, 0)) := by rw [hw4]; exact alloc2_snd _ _ _
      have s4 : w4.heap.size = wo.heap.size + 2 := by rw [hw4]; simp
      have H4 := Lib.hid (And.intro b4 (And.intro x4 (And.intro y4 (And.intro s4 (hu.below b4)))))
      clear b4 x4 y4 s4 hu
      unfold recCells at hw4
      unfold SL.v at *
      go_upto_region 11 with (fail)
      rw [← hw4]
      clear hw4 r0 r1 r2 r3 r4 r5
      refine wp_region_K (ops := ops11) (N := 19) (fun w' => w'.cell? ⟨wo.heap.size + 1, 0, none⟩ = some (.slice u.f.a rs[k].plan.fr.length u.f.c) ∧ w'.cell? ⟨wo.heap.size + 1, 1, none⟩ = some (.slice u.t.a rs[k].plan.tt.length u.t.c) ∧ w'.cell? ⟨wo.heap.size + 1, 2, none⟩ = some (.slice u.s.a rs[k].plan.steps.length u.s.c) ∧ w'.cell? ⟨wo.heap.size + 1, 3, none⟩ = some (.slice u.b.a rs[k].plan.before.length u.b.c)) 18 (by kernel_rfl) rfl ?_
      refine r11_start (w0 := w4.drew) (b8 := wo.heap.size) (b9 := wo.heap.size + 1) (u := u) (p := rs[k].plan) (z0 := .slice u.f.a rs[k].plan.fr.length u.f.c) (z1 := .slice u.t.a rs[k].plan.tt.length u.t.c) (z2 := .slice u.s.a rs[k].plan.steps.length u.s.c) (z3 := .slice u.b.a rs[k].plan.before.length u.b.c) (fun d _ _ _ _ h => by cases d <;> exact h) (smallB_of (HALL.out _ (List.getElem_mem hlt))) ((cell_at H4.out.2.2.1 0).trans rfl) ((cell_at H4.out.2.2.1 1).trans rfl) ((cell_at H4.out.2.2.1 2).trans rfl) ((cell_at H4.out.2.2.1 3).trans rfl) ((cell_at H4.out.2.1 2).trans rfl) (frozen_at H4.out.2.1 2) ((cell_at H4.out.2.1 3).trans rfl) (frozen_at H4.out.2.1 3) ((cell_at H4.out.2.1 4).trans rfl) (frozen_at H4.out.2.1 4) ((cell_at H4.out.2.1 5).trans rfl) (frozen_at H4.out.2.1 5) (RdPlan.below (w := w4) H4.out.2.2.2.2 ⟨rfl, rfl, rfl, Nat.le_refl _, fun _ _ => rfl⟩) ?_
      intro y39 y40 y41 y42 y43 y44 y45 y46 y47 y48 y49 y50 y51 y52 y53 y54 y55 y56 y57 s0 s1 s2 s3 w' h0 h1 h2 h3 hb
      obtain ⟨A2, c2⟩ := s2
      dsimp only
      obtain ⟨w5, hw5⟩ : ∃ w5, w5 = ((((w'.setCell ⟨wo.heap.size, 2, none⟩ (.slice s0.a rs[k].plan.fr.length s0.c)).setCell ⟨wo.heap.size, 3, none⟩ (.slice s1.a rs[k].plan.tt.length s1.c)).setCell ⟨wo.heap.size, 4, none⟩ (.slice A2 rs[k].plan.steps.length c2)).setCell ⟨wo.heap.size, 5, none⟩ (.slice s3.a rs[k].plan.before.length s3.c)) := ⟨_, rfl⟩
      have hb4 : Below wo.heap.size wo w' := H4.out.1.trans ((⟨rfl, rfl, rfl, Nat.le_refl _, fun _ _ => rfl⟩ : Below wo.heap.size w4 w4.drew).trans (hb.mono H4.out.1.size))
      have hb5 : Hid (Below wo.heap.size wo w5) := by rw [hw5]; exact st_below (st_below (st_below (st_below ((Lib.hid hb4)) (Nat.le_refl _)) (Nat.le_refl _)) (Nat.le_refl _)) (Nat.le_refl _)
      have hx5' := (hb.block wo.heap.size (by have := H4.out.2.2.2.1; show wo.heap.size < w4.heap.size; omega)).trans H4.out.2.1
      have hx5 := (heap_set_same (heap_set_same (heap_set_same (heap_set_same hx5' 2 (.slice s0.a rs[k].plan.fr.length s0.c)) 3 (.slice s1.a rs[k].plan.tt.length s1.c)) 4 (.slice A2 rs[k].plan.steps.length c2)) 5 (.slice s3.a rs[k].plan.before.length s3.c))
      simp only [List.setIfInBounds_toArray, List.set_cons_zero, List.set_cons_succ] at hx5
      rw [← hw5] at hx5
      have hs5 : wo.heap.size + 2 ≤ w5.heap.size := by rw [hw5]; simp only [World.setCell, Array.size_modify]; have := hb.size; have := H4.out.2.2.2.1; have : w4.drew.heap.size = w4.heap.size := rfl; omega
      have q4 : wo.heap.size < w4.drew.heap.size := by have := H4.out.2.2.2.1; show wo.heap.size < w4.heap.size; omega
      have q4' : wC.heap.size + 2 ≤ w4.drew.heap.size := by omega
      have q0 : w4.drew.heap.size ≤ w5.heap.size := by have := H4.out.2.2.2.1; show w4.heap.size ≤ w5.heap.size; omega
      have E0 : EwI w5 w4.drew.heap.size s0 rs[k].plan.fr := by rw [hw5]; exact (((h0.far (p := ⟨_, 2, none⟩) q4 _).far (p := ⟨_, 3, none⟩) q4 _).far (p := ⟨_, 4, none⟩) q4 _).far (p := ⟨_, 5, none⟩) q4 _
      have E1 : EwI w5 w4.drew.heap.size s1 rs[k].plan.tt := by rw [hw5]; exact (((h1.far (p := ⟨_, 2, none⟩) q4 _).far (p := ⟨_, 3, none⟩) q4 _).far (p := ⟨_, 4, none⟩) q4 _).far (p := ⟨_, 5, none⟩) q4 _
      have E2 : EwS 50 w5 w4.drew.heap.size ⟨A2, c2⟩ rs[k].plan.steps := by rw [hw5]; exact (((h2.far (p := ⟨_, 2, none⟩) q4 _).far (p := ⟨_, 3, none⟩) q4 _).far (p := ⟨_, 4, none⟩) q4 _).far (p := ⟨_, 5, none⟩) q4 _
      have E3 : EwS 54 w5 w4.drew.heap.size s3 rs[k].plan.before := by rw [hw5]; exact (((h3.far (p := ⟨_, 2, none⟩) q4 _).far (p := ⟨_, 3, none⟩) q4 _).far (p := ⟨_, 4, none⟩) q4 _).far (p := ⟨_, 5, none⟩) q4 _
      have HR5 : Hid (RdPlan w5 ⟨s0, s1, ⟨A2, c2⟩, s3⟩ rs[k].plan) := Lib.hid ⟨E0.rd, E1.rd, E2.rd, E3.rd⟩
      have HWs : Hid (Wr w5 w4.drew.heap.size w5.heap.size ⟨A2, c2⟩ (rs[k].plan.steps.length * 2)) := Lib.hid E2.wr
      have O5 := HO.out.below hb5.out
      have hz5 := (hb5.out.block (wC.heap.size + 1) hlt1).trans HC.out
      have H5 := Lib.hid (And.intro O5 (And.intro hz5 (And.intro hx5 (And.intro q4 (And.intro q4' q0)))))
      have g0 : w5.cell? ⟨(wC.heap.size + 1), 0, none⟩ = some (.int .i64 t.num) := by rw [cell_at hz5]; rfl
      have g1 : w5.cell? ⟨(wC.heap.size + 1), 1, none⟩ = some (.int .i64 t.ph) := by rw [cell_at hz5]; rfl
      have g2 : w5.cell? ⟨(wC.heap.size + 1), 2, none⟩ = some (.slice pf.a t.plan.fr.length pf.c) := by rw [cell_at hz5]; rfl
      have g3 : w5.cell? ⟨(wC.heap.size + 1), 3, none⟩ = some (.slice pt.a t.plan.tt.length pt.c) := by rw [cell_at hz5]; rfl
      have g4 : w5.cell? ⟨(wC.heap.size + 1), 4, none⟩ = some (.slice Ap t.plan.steps.length cq) := by rw [cell_at hz5]; rfl
      have g5 : w5.cell? ⟨(wC.heap.size + 1), 5, none⟩ = some (.slice pb.a t.plan.before.length pb.c) := by rw [cell_at hz5]; rfl
      have g6 : w5.cell? ⟨(wC.heap.size + 1), 6, none⟩ = some (.slice Ao t.op.length co) := by rw [cell_at hz5]; rfl
      have g7 : w5.cell? ⟨(wC.heap.size + 1), 7, none⟩ = some (.slice Ad t.dn.length cd) := by rw [cell_at hz5]; rfl
      have e0 : w5.cell? ⟨wo.heap.size, 0, none⟩ = some (.int .i64 rs[k].kind) := by rw [cell_at hx5]; rfl
      have e1 : w5.cell? ⟨wo.heap.size, 1, none⟩ = some (.int .i64 rs[k].step) := by rw [cell_at hx5]; rfl
      have e2 : w5.cell? ⟨wo.heap.size, 2, none⟩ = some (.slice s0.a rs[k].plan.fr.length s0.c) := by rw [cell_at hx5]; rfl
      have e3 : w5.cell? ⟨wo.heap.size, 3, none⟩ = some (.slice s1.a rs[k].plan.tt.length s1.c) := by rw [cell_at hx5]; rfl
      have e4 : w5.cell? ⟨wo.heap.size, 4, none⟩ = some (.slice A2 rs[k].plan.steps.length c2) := by rw [cell_at hx5]; rfl
      have e5 : w5.cell? ⟨wo.heap.size, 5, none⟩ = some (.slice s3.a rs[k].plan.before.length s3.c) := by rw [cell_at hx5]; rfl
      rw [← hw5]
      clear hw5 E0 E1 E2 E3 O5 hz5 hx5 hx5' h0 h1 h2 h3 hb hb4 hs5 q4 q4' q0
      go_upto_region 13 with (go_at_call 7; refine (take_any ⟨⟨pf, pt, ⟨Ap, cq⟩, pb⟩, ⟨Ao, co⟩, ⟨Ad, cd⟩⟩ t ⟨s0, s1, ⟨A2, c2⟩, s3⟩ rs[k] w5 H5.out.1.rd (HZ.out.lens (by omega)) HR5.out (smallB_of (HALL.out _ (List.getElem_mem hlt))) (HT.out.below (HBw.out.trans (hb5.out.mono HBw.out.size))) HZ.out.n0 (by have := HZ.out.n1; omega)).mono ?_; unfold TkP; rw [HX'.out.1]; rintro e0 w6 ⟨v', rfl, ho, hb⟩; have H6 := Lib.hid (And.intro ho hb); clear ho hb g0 g1 g2 g3 g4 g5 g6 g7 e0 e1 e2 e3 e4 e5)
      obtain ⟨w7, hw7⟩ : ∃ w7, w7 = w6.alloc (.cells (stCells v' t') 34) := ⟨_, rfl⟩
      have b67 : Below w6.heap.size w6 w7 := by rw [hw7]; exact (Below.refl _ _).alloc (Nat.le_refl _) _
      have x7n : w7.heap[w6.heap.size]? = some (.cells (stCells v' t') 34 (0, 0)) := by rw [hw7]; exact heap_alloc_new w6 _
      have b57 : Below w5.heap.size w5 w7 := H6.out.2.trans (b67.mono H6.out.2.size)
      have br7 : Below wo.heap.size wo w7 := hb5.out.trans (b57.mono hb5.out.size)
      have x7T := (b57.block _ (lt_of H5.out.2.1)).trans H5.out.2.1
      have x7b := (b57.block _ (lt_of H5.out.2.2.1)).trans H5.out.2.2.1
      have HM0 : Hid (Mut w1 w7 w7 wC.heap.size wo.heap.size w5.heap.size) := Lib.hid (Mut.start (HB.out.trans (br7.mono (by omega))))
      have HW0 : Hid (Wr w7 w4.drew.heap.size w5.heap.size ⟨A2, c2⟩ (rs[k].plan.steps.length * 2) ∧ Wr w7 (wC.heap.size + 2) wo.heap.size ⟨Ao, co⟩ t.op.length ∧ Wr w7 (wC.heap.size + 2) wo.heap.size ⟨Ad, cd⟩ t.dn.length ∧ Wr w7 (wC.heap.size + 2) wo.heap.size ⟨Ap, cq⟩ (t.plan.steps.length * 2)) :=
        Lib.hid ⟨HWs.out.below b57, HO.out.o.wr.below br7, HO.out.d.wr.below br7, HO.out.p.s.wr.below br7⟩
      have H7 := Lib.hid (And.intro (H6.out.1.below b67) (And.intro x7n (And.intro x7T x7b)))
      have z7 : w6.heap.size < w7.heap.size := lt_of x7n
      have z5 : w5.heap.size ≤ w6.heap.size := H6.out.2.size
      have zr : wo.heap.size < w4.drew.heap.size := H5.out.2.2.2.1
      have zc : w4.drew.heap.size ≤ w5.heap.size := H5.out.2.2.2.2.2
      have zt : rs[k].plan.steps.length ≤ 100 := (smallB_lens (HALL.out _ (List.getElem_mem hlt))).2.2.1
      have zo : t.op.length ≤ 1000 := (HZ.out.lens (by omega)).o
      have zd : t.dn.length ≤ 1000 := (HZ.out.lens (by omega)).d
      have zs : t.plan.steps.length ≤ 1000 := HZ.out.p.s
      have a4 : w7.cell? ⟨wo.heap.size, 4, none⟩ = some (.slice A2 rs[k].plan.steps.length c2) := by rw [cell_at x7b]; rfl
      unfold stCells SL.v at hw7
      rw [← hw7]
      clear hw7 b67 x7n b57 br7 x7T x7b H6 H5 HWs
      go_wp2
      go_loopw [69] (fun i wr => ∃ j : Nat, j ≤ rs[k].plan.steps.length ∧ i = .int .i64 j ∧ Hid (Mut w1 w7 wr wC.heap.size wo.heap.size w5.heap.size) ∧ Hid (Wr wr w4.drew.heap.size w5.heap.size ⟨A2, c2⟩ (rs[k].plan.steps.length * 2) ∧ Wr wr (wC.heap.size + 2) wo.heap.size ⟨Ao, co⟩ t.op.length ∧ Wr wr (wC.heap.size + 2) wo.heap.size ⟨Ad, cd⟩ t.dn.length ∧ Wr wr (wC.heap.size + 2) wo.heap.size ⟨Ap, cq⟩ (t.plan.steps.length * 2))) (fun i _ => rs[k].plan.steps.length - (intOf i).toNat)
      case atStart => exact ⟨0, Nat.zero_le _, rfl, HM0, HW0⟩
      case round =>
        obtain ⟨j, hj, rfl, HM, HW⟩ := hrel
        by_cases hjl : j < rs[k].plan.steps.length
        · obtain ⟨g, uu, he, q1, q2, q3, q5⟩ := HW.out.1.at_ (j := j * 2 + 1) (by omega)
          have a4 : wr.cell? ⟨wo.heap.size, 4, none⟩ = some (.slice A2 rs[k].plan.steps.length c2) := by rw [cell_at (HM.out.bx.trans H7.out.2.2.2)]; rfl
          obtain rfl : A2 = some ⟨g, 0, none⟩ := he
          have HN := Lib.hid (And.intro (HM.out.set g (j * 2 + 1) (.int .i64 (-9)) (by omega) (by omega) (by omega)) (And.intro (HW.out.1.set g (j * 2 + 1) (.int .i64 (-9))) (And.intro (HW.out.2.1.set g (j * 2 + 1) (.int .i64 (-9))) (And.intro (HW.out.2.2.1.set g (j * 2 + 1) (.int .i64 (-9))) (HW.out.2.2.2.set g (j * 2 + 1) (.int .i64 (-9)))))))
          go_wp2
          go_roundw
          case rel => exact ⟨j + 1, by omega, by go_num, Lib.hid HN.out.1, Lib.hid HN.out.2⟩
          case measure => simp [intOf]; omega
        · skip
          have a6 : wr.cell? ⟨wC.heap.size + 1, 6, none⟩ = some (.slice Ao t.op.length co) := by rw [cell_at ((HM.out.lo _ (by omega)).trans H7.out.2.2.1)]; rfl
          go_wp2
          go_loopw [82] (fun i wr => ∃ j : Nat, j ≤ t.op.length ∧ i = .int .i64 j ∧ Hid (Mut w1 w7 wr wC.heap.size wo.heap.size w5.heap.size) ∧ Hid (Wr wr w4.drew.heap.size w5.heap.size ⟨A2, c2⟩ (rs[k].plan.steps.length * 2) ∧ Wr wr (wC.heap.size + 2) wo.heap.size ⟨Ao, co⟩ t.op.length ∧ Wr wr (wC.heap.size + 2) wo.heap.size ⟨Ad, cd⟩ t.dn.length ∧ Wr wr (wC.heap.size + 2) wo.heap.size ⟨Ap, cq⟩ (t.plan.steps.length * 2))) (fun i _ => t.op.length - (intOf i).toNat)
          case atStart => exact ⟨0, Nat.zero_le _, rfl, HM, HW⟩
          case round =>
            obtain ⟨j, hj, rfl, HM, HW⟩ := hrel
            by_cases hjl : j < t.op.length
            · obtain ⟨g, uu, he, q1, q2, q3, q5⟩ := HW.out.2.1.at_ (j := j) (by omega)
              have a6 : wr.cell? ⟨wC.heap.size + 1, 6, none⟩ = some (.slice Ao t.op.length co) := by rw [cell_at ((HM.out.lo _ (by omega)).trans H7.out.2.2.1)]; rfl
              obtain rfl : Ao = some ⟨g, 0, none⟩ := he
              have HN := Lib.hid (And.intro (HM.out.set g (j) (.int .i64 (-9)) (by omega) (by omega) (by omega)) (And.intro (HW.out.1.set g (j) (.int .i64 (-9))) (And.intro (HW.out.2.1.set g (j) (.int .i64 (-9))) (And.intro (HW.out.2.2.1.set g (j) (.int .i64 (-9))) (HW.out.2.2.2.set g (j) (.int .i64 (-9)))))))
              go_wp2
              go_roundw
              case rel => exact ⟨j + 1, by omega, by go_num, Lib.hid HN.out.1, Lib.hid HN.out.2⟩
              case measure => simp [intOf]; omega
            · skip
              have a7 : wr.cell? ⟨wC.heap.size + 1, 7, none⟩ = some (.slice Ad t.dn.length cd) := by rw [cell_at ((HM.out.lo _ (by omega)).trans H7.out.2.2.1)]; rfl
              go_wp2
              go_loopw [93] (fun i wr => ∃ j : Nat, j ≤ t.dn.length ∧ i = .int .i64 j ∧ Hid (Mut w1 w7 wr wC.heap.size wo.heap.size w5.heap.size) ∧ Hid (Wr wr w4.drew.heap.size w5.heap.size ⟨A2, c2⟩ (rs[k].plan.steps.length * 2) ∧ Wr wr (wC.heap.size + 2) wo.heap.size ⟨Ao, co⟩ t.op.length ∧ Wr wr (wC.heap.size + 2) wo.heap.size ⟨Ad, cd⟩ t.dn.length ∧ Wr wr (wC.heap.size + 2) wo.heap.size ⟨Ap, cq⟩ (t.plan.steps.length * 2))) (fun i _ => t.dn.length - (intOf i).toNat)
              case atStart => exact ⟨0, Nat.zero_le _, rfl, HM, HW⟩
              case round =>
                obtain ⟨j, hj, rfl, HM, HW⟩ := hrel
                by_cases hjl : j < t.dn.length
                · obtain ⟨g, uu, he, q1, q2, q3, q5⟩ := HW.out.2.2.1.at_ (j := j) (by omega)
                  have a7 : wr.cell? ⟨wC.heap.size + 1, 7, none⟩ = some (.slice Ad t.dn.length cd) := by rw [cell_at ((HM.out.lo _ (by omega)).trans H7.out.2.2.1)]; rfl
                  obtain rfl : Ad = some ⟨g, 0, none⟩ := he
                  have HN := Lib.hid (And.intro (HM.out.set g (j) (.int .i64 (-9)) (by omega) (by omega) (by omega)) (And.intro (HW.out.1.set g (j) (.int .i64 (-9))) (And.intro (HW.out.2.1.set g (j) (.int .i64 (-9))) (And.intro (HW.out.2.2.1.set g (j) (.int .i64 (-9))) (HW.out.2.2.2.set g (j) (.int .i64 (-9)))))))
                  go_wp2
                  go_roundw
                  case rel => exact ⟨j + 1, by omega, by go_num, Lib.hid HN.out.1, Lib.hid HN.out.2⟩
                  case measure => simp [intOf]; omega
                · skip
                  have a4 : wr.cell? ⟨wC.heap.size + 1, 4, none⟩ = some (.slice Ap t.plan.steps.length cq) := by rw [cell_at ((HM.out.lo _ (by omega)).trans H7.out.2.2.1)]; rfl
                  go_wp2
                  go_loopw [105] (fun i wr => ∃ j : Nat, j ≤ t.plan.steps.length ∧ i = .int .i64 j ∧ Hid (Mut w1 w7 wr wC.heap.size wo.heap.size w5.heap.size) ∧ Hid (Wr wr w4.drew.heap.size w5.heap.size ⟨A2, c2⟩ (rs[k].plan.steps.length * 2) ∧ Wr wr (wC.heap.size + 2) wo.heap.size ⟨Ao, co⟩ t.op.length ∧ Wr wr (wC.heap.size + 2) wo.heap.size ⟨Ad, cd⟩ t.dn.length ∧ Wr wr (wC.heap.size + 2) wo.heap.size ⟨Ap, cq⟩ (t.plan.steps.length * 2))) (fun i _ => t.plan.steps.length - (intOf i).toNat)
                  case atStart => exact ⟨0, Nat.zero_le _, rfl, HM, HW⟩
                  case round =>
                    obtain ⟨j, hj, rfl, HM, HW⟩ := hrel
                    by_cases hjl : j < t.plan.steps.length
                    · obtain ⟨g, uu, he, q1, q2, q3, q5⟩ := HW.out.2.2.2.at_ (j := j * 2 + 1) (by omega)
                      have a4 : wr.cell? ⟨wC.heap.size + 1, 4, none⟩ = some (.slice Ap t.plan.steps.length cq) := by rw [cell_at ((HM.out.lo _ (by omega)).trans H7.out.2.2.1)]; rfl
                      obtain rfl : Ap = some ⟨g, 0, none⟩ := he
                      have HN := Lib.hid (And.intro (HM.out.set g (j * 2 + 1) (.int .i64 (-9)) (by omega) (by omega) (by omega)) (And.intro (HW.out.1.set g (j * 2 + 1) (.int .i64 (-9))) (And.intro (HW.out.2.1.set g (j * 2 + 1) (.int .i64 (-9))) (And.intro (HW.out.2.2.1.set g (j * 2 + 1) (.int .i64 (-9))) (HW.out.2.2.2.set g (j * 2 + 1) (.int .i64 (-9)))))))
                      go_wp2
                      go_roundw
                      case rel => exact ⟨j + 1, by omega, by go_num, Lib.hid HN.out.1, Lib.hid HN.out.2⟩
                      case measure => simp [intOf]; omega
                    · skip
                      have x8 := (HM.out.up _ z5).trans H7.out.2.1
                      have y8 := (HM.out.lo (wC.heap.size + 1) (by omega)).trans H7.out.2.2.1
                      have d0 : wr.cell? ⟨w6.heap.size, 0, none⟩ = some (.int .i64 t'.num) := by rw [cell_at x8]; rfl
                      have d1 : wr.cell? ⟨w6.heap.size, 1, none⟩ = some (.int .i64 t'.ph) := by rw [cell_at x8]; rfl
                      have d2 : wr.cell? ⟨w6.heap.size, 2, none⟩ = some (v'.p.f.v t'.plan.fr.length) := by rw [cell_at x8]; rfl
                      have d3 : wr.cell? ⟨w6.heap.size, 3, none⟩ = some (v'.p.t.v t'.plan.tt.length) := by rw [cell_at x8]; rfl
                      have d4 : wr.cell? ⟨w6.heap.size, 4, none⟩ = some (v'.p.s.v t'.plan.steps.length) := by rw [cell_at x8]; rfl
                      have d5 : wr.cell? ⟨w6.heap.size, 5, none⟩ = some (v'.p.b.v t'.plan.before.length) := by rw [cell_at x8]; rfl
                      have d6 : wr.cell? ⟨w6.heap.size, 6, none⟩ = some (v'.o.v t'.op.length) := by rw [cell_at x8]; rfl
                      have d7 : wr.cell? ⟨w6.heap.size, 7, none⟩ = some (v'.d.v t'.dn.length) := by rw [cell_at x8]; rfl
                      have g0 : wr.cell? ⟨(wC.heap.size + 1), 0, none⟩ = some (.int .i64 t.num) := by rw [cell_at y8]; rfl
                      have g1 : wr.cell? ⟨(wC.heap.size + 1), 1, none⟩ = some (.int .i64 t.ph) := by rw [cell_at y8]; rfl
                      have g2 : wr.cell? ⟨(wC.heap.size + 1), 2, none⟩ = some (.slice pf.a t.plan.fr.length pf.c) := by rw [cell_at y8]; rfl
                      have g3 : wr.cell? ⟨(wC.heap.size + 1), 3, none⟩ = some (.slice pt.a t.plan.tt.length pt.c) := by rw [cell_at y8]; rfl
                      have g4 : wr.cell? ⟨(wC.heap.size + 1), 4, none⟩ = some (.slice Ap t.plan.steps.length cq) := by rw [cell_at y8]; rfl
                      have g5 : wr.cell? ⟨(wC.heap.size + 1), 5, none⟩ = some (.slice pb.a t.plan.before.length pb.c) := by rw [cell_at y8]; rfl
                      have g6 : wr.cell? ⟨(wC.heap.size + 1), 6, none⟩ = some (.slice Ao t.op.length co) := by rw [cell_at y8]; rfl
                      have g7 : wr.cell? ⟨(wC.heap.size + 1), 7, none⟩ = some (.slice Ad t.dn.length cd) := by rw [cell_at y8]; rfl
                      have f0 : wr.frozen? ⟨wC.heap.size + 1, 0, none⟩ = false := frozen_at y8 _
                      have f1 : wr.frozen? ⟨wC.heap.size + 1, 1, none⟩ = false := frozen_at y8 _
                      have f2 : wr.frozen? ⟨wC.heap.size + 1, 2, none⟩ = false := frozen_at y8 _
                      have f3 : wr.frozen? ⟨wC.heap.size + 1, 3, none⟩ = false := frozen_at y8 _
                      have f4 : wr.frozen? ⟨wC.heap.size + 1, 4, none⟩ = false := frozen_at y8 _
                      have f5 : wr.frozen? ⟨wC.heap.size + 1, 5, none⟩ = false := frozen_at y8 _
                      have f6 : wr.frozen? ⟨wC.heap.size + 1, 6, none⟩ = false := frozen_at y8 _
                      have f7 : wr.frozen? ⟨wC.heap.size + 1, 7, none⟩ = false := frozen_at y8 _
                      have hx9 := (heap_set_same (heap_set_same (heap_set_same (heap_set_same (heap_set_same (heap_set_same (heap_set_same (heap_set_same y8 0 (.int .i64 t'.num)) 1 (.int .i64 t'.ph)) 2 (v'.p.f.v t'.plan.fr.length)) 3 (v'.p.t.v t'.plan.tt.length)) 4 (v'.p.s.v t'.plan.steps.length)) 5 (v'.p.b.v t'.plan.before.length)) 6 (v'.o.v t'.op.length)) 7 (v'.d.v t'.dn.length))
                      simp only [List.setIfInBounds_toArray, List.set_cons_zero, List.set_cons_succ] at hx9
                      have k9 : Kp (wC.heap.size + 2) wr ((((((((wr.setCell ⟨(wC.heap.size + 1), 0, none⟩ (.int .i64 t'.num)).setCell ⟨(wC.heap.size + 1), 1, none⟩ (.int .i64 t'.ph)).setCell ⟨(wC.heap.size + 1), 2, none⟩ (v'.p.f.v t'.plan.fr.length)).setCell ⟨(wC.heap.size + 1), 3, none⟩ (v'.p.t.v t'.plan.tt.length)).setCell ⟨(wC.heap.size + 1), 4, none⟩ (v'.p.s.v t'.plan.steps.length)).setCell ⟨(wC.heap.size + 1), 5, none⟩ (v'.p.b.v t'.plan.before.length)).setCell ⟨(wC.heap.size + 1), 6, none⟩ (v'.o.v t'.op.length)).setCell ⟨(wC.heap.size + 1), 7, none⟩ (v'.d.v t'.dn.length)) := (((((((((Kp.refl (wC.heap.size + 2) wr).set (p := ⟨_, 0, none⟩) (Nat.lt_succ_self _) _).set (p := ⟨_, 1, none⟩) (Nat.lt_succ_self _) _).set (p := ⟨_, 2, none⟩) (Nat.lt_succ_self _) _).set (p := ⟨_, 3, none⟩) (Nat.lt_succ_self _) _).set (p := ⟨_, 4, none⟩) (Nat.lt_succ_self _) _).set (p := ⟨_, 5, none⟩) (Nat.lt_succ_self _) _).set (p := ⟨_, 6, none⟩) (Nat.lt_succ_self _) _).set (p := ⟨_, 7, none⟩) (Nat.lt_succ_self _) _)
                      have hb9 : Hid (Below (wC.heap.size + 1) w1 ((((((((wr.setCell ⟨(wC.heap.size + 1), 0, none⟩ (.int .i64 t'.num)).setCell ⟨(wC.heap.size + 1), 1, none⟩ (.int .i64 t'.ph)).setCell ⟨(wC.heap.size + 1), 2, none⟩ (v'.p.f.v t'.plan.fr.length)).setCell ⟨(wC.heap.size + 1), 3, none⟩ (v'.p.t.v t'.plan.tt.length)).setCell ⟨(wC.heap.size + 1), 4, none⟩ (v'.p.s.v t'.plan.steps.length)).setCell ⟨(wC.heap.size + 1), 5, none⟩ (v'.p.b.v t'.plan.before.length)).setCell ⟨(wC.heap.size + 1), 6, none⟩ (v'.o.v t'.op.length)).setCell ⟨(wC.heap.size + 1), 7, none⟩ (v'.d.v t'.dn.length))) := st_below (st_below (st_below (st_below (st_below (st_below (st_below (st_below ((Lib.hid HM.out.below)) (Nat.le_refl _)) (Nat.le_refl _)) (Nat.le_refl _)) (Nat.le_refl _)) (Nat.le_refl _)) (Nat.le_refl _)) (Nat.le_refl _)) (Nat.le_refl _)
                      have O9 : OwSt ((((((((wr.setCell ⟨(wC.heap.size + 1), 0, none⟩ (.int .i64 t'.num)).setCell ⟨(wC.heap.size + 1), 1, none⟩ (.int .i64 t'.ph)).setCell ⟨(wC.heap.size + 1), 2, none⟩ (v'.p.f.v t'.plan.fr.length)).setCell ⟨(wC.heap.size + 1), 3, none⟩ (v'.p.t.v t'.plan.tt.length)).setCell ⟨(wC.heap.size + 1), 4, none⟩ (v'.p.s.v t'.plan.steps.length)).setCell ⟨(wC.heap.size + 1), 5, none⟩ (v'.p.b.v t'.plan.before.length)).setCell ⟨(wC.heap.size + 1), 6, none⟩ (v'.o.v t'.op.length)).setCell ⟨(wC.heap.size + 1), 7, none⟩ (v'.d.v t'.dn.length)) (wC.heap.size + 2) v' t' := OwSt.lower (OwSt.step (g := wC.heap.size + 2) (OwSt.step (g := w5.heap.size) H7.out.1 (fun k hk => HM.out.up k hk) (Nat.le_refl _)) k9 (by omega)) (by omega)
                      have ht' : t' = nextS t rs[k] := by have h2 := takeP_ok (s := t) (r := rs[k]) (by rw [HX'.out.1]); rw [HX'.out.1] at h2; exact h2.1
                      have HZ' : Hid (Sz (k + 1) t') := Lib.hid (by rw [ht']; exact HZ.out.next (smallB_of (HALL.out _ (List.getElem_mem hlt))))
                      have HP' : Hid (smallB t'.plan = true) := Lib.hid (by rw [ht']; exact nextS_small HP.out (HALL.out _ (List.getElem_mem hlt)))
                      have HE := Lib.hid (And.intro hx9 (And.intro O9 hb9.out))
                      clear hx9 k9 hb9 O9 ht' x8 y8
                      unfold SL.v at d2 d3 d4 d5 d6 d7
                      go_wp2
                      go_roundw
                      case rel => exact ⟨k + 1, v', t', by omega, by go_num, Lib.hid HE.out.1, Lib.hid HE.out.2.1, Lib.hid HE.out.2.2, HZ', Lib.hid HX'.out.2, HP'⟩
                      case measure => simp [intOf]; omega
    · skip
      obtain rfl : k = n := by omega
      have htS := rplG_same HG.out
      rw [htS] at HC HO HP HZ
      clear htS
      have zb := HB.out.size
      have xT := HC.out
      have xS := (HB.out.block wC.heap.size (Nat.lt_succ_self _)).trans HW1.out.2.1
      have a0 : wo.cell? ⟨wC.heap.size, 0, none⟩ = some (.int .i64 S.num) := by rw [cell_at xS]; rfl
      have a1 : wo.cell? ⟨wC.heap.size, 1, none⟩ = some (.int .i64 S.ph) := by rw [cell_at xS]; rfl
      have a2 : wo.cell? ⟨wC.heap.size, 2, none⟩ = some (.slice vS.p.f.a S.plan.fr.length vS.p.f.c) := by rw [cell_at xS]; rfl
      have a3 : wo.cell? ⟨wC.heap.size, 3, none⟩ = some (.slice vS.p.t.a S.plan.tt.length vS.p.t.c) := by rw [cell_at xS]; rfl
      have a4 : wo.cell? ⟨wC.heap.size, 4, none⟩ = some (.slice vS.p.s.a S.plan.steps.length vS.p.s.c) := by rw [cell_at xS]; rfl
      have a5 : wo.cell? ⟨wC.heap.size, 5, none⟩ = some (.slice vS.p.b.a S.plan.before.length vS.p.b.c) := by rw [cell_at xS]; rfl
      have a6 : wo.cell? ⟨wC.heap.size, 6, none⟩ = some (.slice vS.o.a S.op.length vS.o.c) := by rw [cell_at xS]; rfl
      have a7 : wo.cell? ⟨wC.heap.size, 7, none⟩ = some (.slice vS.d.a S.dn.length vS.d.c) := by rw [cell_at xS]; rfl
      have HQ : Hid (RdPlan wo vS.p S.plan) := Lib.hid (HC0.out.1.p.rd.below HBC.out)
      have I0 := Lib.hid (madePlan_any vS.p S.plan wo HQ.out)
      unfold planV SL.v at I0
      go_upto_region 38 with (go_at_call 6; refine I0.out.mono ?_; rintro e0 w8 ⟨q, xs, rfl, hxs, hrd, hb⟩; rw [HP.out]; have HXS := Lib.hid (And.intro (hxs HP.out) (And.intro hrd hb)); clear hxs hrd hb a0 a1 a2 a3 a4 a5 a6 a7)
      obtain ⟨w9, hw9⟩ : ∃ w9, w9 = w8.alloc (.cells #[.slice vS.p.f.a S.plan.fr.length vS.p.f.c, .slice vS.p.t.a S.plan.tt.length vS.p.t.c, .slice q.a xs.length q.c, .slice vS.p.b.a S.plan.before.length vS.p.b.c] 30) := ⟨_, rfl⟩
      have b9 : Below w8.heap.size w8 w9 := by rw [hw9]; exact (Below.refl _ _).alloc (Nat.le_refl _) _
      have x9 : w9.heap[w8.heap.size]? = some (.cells #[.slice vS.p.f.a S.plan.fr.length vS.p.f.c, .slice vS.p.t.a S.plan.tt.length vS.p.t.c, .slice q.a xs.length q.c, .slice vS.p.b.a S.plan.before.length vS.p.b.c] 30 (0, 0)) := by rw [hw9]; exact heap_alloc_new w8 _
      have b89 : Below wo.heap.size wo w9 := HXS.out.2.2.trans (b9.mono HXS.out.2.2.size)
      have xT9 := (b89.block _ hlt1).trans xT
      have xS9 := (b89.block _ (lt_of xS)).trans xS
      have a0 : w9.cell? ⟨wC.heap.size, 0, none⟩ = some (.int .i64 S.num) := by rw [cell_at xS9]; rfl
      have a1 : w9.cell? ⟨wC.heap.size, 1, none⟩ = some (.int .i64 S.ph) := by rw [cell_at xS9]; rfl
      have a2 : w9.cell? ⟨wC.heap.size, 2, none⟩ = some (.slice vS.p.f.a S.plan.fr.length vS.p.f.c) := by rw [cell_at xS9]; rfl
      have a3 : w9.cell? ⟨wC.heap.size, 3, none⟩ = some (.slice vS.p.t.a S.plan.tt.length vS.p.t.c) := by rw [cell_at xS9]; rfl
      have a4 : w9.cell? ⟨wC.heap.size, 4, none⟩ = some (.slice vS.p.s.a S.plan.steps.length vS.p.s.c) := by rw [cell_at xS9]; rfl
      have a5 : w9.cell? ⟨wC.heap.size, 5, none⟩ = some (.slice vS.p.b.a S.plan.before.length vS.p.b.c) := by rw [cell_at xS9]; rfl
      have a6 : w9.cell? ⟨wC.heap.size, 6, none⟩ = some (.slice vS.o.a S.op.length vS.o.c) := by rw [cell_at xS9]; rfl
      have a7 : w9.cell? ⟨wC.heap.size, 7, none⟩ = some (.slice vS.d.a S.dn.length vS.d.c) := by rw [cell_at xS9]; rfl
      have g0 : w9.cell? ⟨(wC.heap.size + 1), 0, none⟩ = some (.int .i64 S.num) := by rw [cell_at xT9]; rfl
      have g1 : w9.cell? ⟨(wC.heap.size + 1), 1, none⟩ = some (.int .i64 S.ph) := by rw [cell_at xT9]; rfl
      have g2 : w9.cell? ⟨(wC.heap.size + 1), 2, none⟩ = some (.slice pf.a S.plan.fr.length pf.c) := by rw [cell_at xT9]; rfl
      have g3 : w9.cell? ⟨(wC.heap.size + 1), 3, none⟩ = some (.slice pt.a S.plan.tt.length pt.c) := by rw [cell_at xT9]; rfl
      have g4 : w9.cell? ⟨(wC.heap.size + 1), 4, none⟩ = some (.slice Ap S.plan.steps.length cq) := by rw [cell_at xT9]; rfl
      have g5 : w9.cell? ⟨(wC.heap.size + 1), 5, none⟩ = some (.slice pb.a S.plan.before.length pb.c) := by rw [cell_at xT9]; rfl
      have g6 : w9.cell? ⟨(wC.heap.size + 1), 6, none⟩ = some (.slice Ao S.op.length co) := by rw [cell_at xT9]; rfl
      have g7 : w9.cell? ⟨(wC.heap.size + 1), 7, none⟩ = some (.slice Ad S.dn.length cd) := by rw [cell_at xT9]; rfl
      have d0 : w9.cell? ⟨w8.heap.size, 0, none⟩ = some (.slice vS.p.f.a S.plan.fr.length vS.p.f.c) := by rw [cell_at x9]; rfl
      have d1 : w9.cell? ⟨w8.heap.size, 1, none⟩ = some (.slice vS.p.t.a S.plan.tt.length vS.p.t.c) := by rw [cell_at x9]; rfl
      have d2 : w9.cell? ⟨w8.heap.size, 2, none⟩ = some (.slice q.a xs.length q.c) := by rw [cell_at x9]; rfl
      have d3 : w9.cell? ⟨w8.heap.size, 3, none⟩ = some (.slice vS.p.b.a S.plan.before.length vS.p.b.c) := by rw [cell_at x9]; rfl
      have hq9 : RdP w9 q S.plan.steps := by have := HXS.out.2.1.below b9; rw [HXS.out.1] at this; exact this
      have I1 := Lib.hid (ints_same ⟨Ao, co⟩ vS.o S.op w9 (HO.out.o.rd.below b89) ((HC0.out.1.o.rd.below HBC.out).below b89) (HZ.out.lens (by omega)).o)
      have I2 := Lib.hid (ints_same ⟨Ad, cd⟩ vS.d S.dn w9 (HO.out.d.rd.below b89) ((HC0.out.1.d.rd.below HBC.out).below b89) (HZ.out.lens (by omega)).d)
      have I3 : Hid (Calls Tryd.prog 16 #[.agg #[.slice pf.a S.plan.fr.length pf.c, .slice pt.a S.plan.tt.length pt.c, .slice Ap S.plan.steps.length cq, .slice pb.a S.plan.before.length pb.c], .agg #[.slice vS.p.f.a S.plan.fr.length vS.p.f.c, .slice vS.p.t.a S.plan.tt.length vS.p.t.c, .slice q.a xs.length q.c, .slice vS.p.b.a S.plan.before.length vS.p.b.c]] w9 (Ret w9 (.bool true))) := Lib.hid (by
        rw [HXS.out.1]
        exact like_same ⟨pf, pt, ⟨Ap, cq⟩, pb⟩ ⟨vS.p.f, vS.p.t, q, vS.p.b⟩ S.plan w9 (HO.out.p.rd.below b89) ⟨HQ.out.f.below b89, HQ.out.t.below b89, hq9, HQ.out.b.below b89⟩ HZ.out.p)
      have HF := Lib.hid ((HBw.out).trans (b89.mono HBw.out.size))
      unfold SL.v at I1 I2
      rw [← hw9]
      clear hw9 b9 x9 b89 xT9 xS9 hq9 xT xS
      go_wp2_with (first | (go_at_call 15; first | (with_reducible refine I1.out.mono ?_; rintro e0 w10 ⟨rfl, rfl⟩) | (with_reducible refine I2.out.mono ?_; rintro e0 w10 ⟨rfl, rfl⟩)) | (go_at_call 16; refine I3.out.mono ?_; rintro e0 w11 ⟨rfl, hb⟩; have HF2 := Lib.hid (HF.out.trans (hb.mono HF.out.size)); clear hb))
      go_ret
      exact ⟨rfl, HF2.out⟩
end Go.Proofs.YtedalanhjhiehaaDoor
