import Derived.Test.YtedalanhjhiehaaDoorSb
import Derived.Deep.DeepCutAuto
set_option linter.unusedSimpArgs false
set_option linter.unusedVariables false
namespace Go.Proofs.YtedalanhjhiehaaDoor
open Go.RowKit
open YtedalanhjhiehaaDoorW.PrintWords (nums ReadsInt rd own_slice own_typed Kd)

theorem ints_same (s u : SL) (xs : List Int) (w : World) (h : RdI w s xs) (h' : RdI w u xs) (hl : xs.length ≤ 1000) :
    Calls Tryd.prog 15 #[s.v xs.length, u.v xs.length] w (fun e w' => e = .returned (.bool true) ∧ w = w') := by
  have H := Lib.hid h
  have H' := Lib.hid h'
  clear h h'
  unfold SL.v
  go_enter Tryd.func15, Tryd.ntmps15
  go_wp2
  go_loopw [14] (fun i wr => ∃ k : Nat, k ≤ xs.length ∧ i = .int .i64 k ∧ wr = w) (fun i _ => xs.length - (intOf i).toNat)
  case atStart => exact ⟨0, Nat.zero_le _, rfl, rfl⟩
  case round =>
    obtain ⟨k, hk, rfl, rfl⟩ := hrel
    by_cases hlt : k < xs.length
    · obtain ⟨ad, he, hc⟩ := H.out.at_ k hlt
      obtain ⟨ad', he', hc'⟩ := H'.out.at_ k hlt
      go_wp2
      go_roundw
      case rel => exact ⟨k + 1, by omega, by go_num, trivial⟩
      case measure => simp [intOf]; omega
    · go_wp2
      go_ret
      exact ⟨rfl, rfl⟩

theorem eq3 (a b : Int) (d : Nat) (w : World) : (Op.equalIn (d + 1) 3 (.int .i64 a) (.int .i64 b)).run Tryd.prog w = .ok (a == b) w := run_equalIn_int w d 3 .i64 .i64 a b Tryd.underlying3
theorem eq54 (a b : Int) (w : World) : (Op.equalIn 10000 54 (.agg #[.int .i64 a, .int .i64 b]) (.agg #[.int .i64 a, .int .i64 b])).run Tryd.prog w = .ok true w := by
  rw [show (10000 : Nat) = 9999 + 1 from rfl, Op.equalIn]
  have h3 : (Go.isAgg 3).run Tryd.prog w = .ok false w := by go_simp
  have hz : (sizeOf 3).run Tryd.prog w = .ok 1 w := by go_simp
  simp only [Sem.run_bind, run_underlying Tryd.underlying54, Result.andThen_ok, hz]
  simp only [Std.Legacy.Range.forIn_eq_forIn_range', Std.Legacy.Range.size]
  simp only [show List.range' 0 ((2 - 0 + 1 - 1) / 1) 1 = [0, 1] from rfl, List.forIn_cons, List.forIn_nil]
  simp [part, eq3, h3]
attribute [local go_sem] eq54

set_option maxHeartbeats 1000000 in
set_option maxRecDepth 100000 in
theorem like_same (u v : PV) (p : PlanP) (w : World) (h : RdPlan w u p) (h' : RdPlan w v p) (hl : Lens p) :
    Calls Tryd.prog 16 #[planV u p, planV v p] w (Ret w (.bool true)) := by
  obtain ⟨⟨uf, ufc⟩, ⟨ut, utc⟩, ⟨us, usc⟩, ⟨ub, ubc⟩⟩ := u
  obtain ⟨⟨vf, vfc⟩, ⟨vt, vtc⟩, ⟨vs, vsc⟩, ⟨vb, vbc⟩⟩ := v
  obtain ⟨pf, pt, ps, pb⟩ := p
  dsimp only [planV, SL.v] at *
  obtain ⟨w3, hw3⟩ : ∃ w3, w3 = (w.alloc (.cells #[.slice uf pf.length ufc, .slice ut pt.length utc, .slice us ps.length usc, .slice ub pb.length ubc] 26)).alloc (.cells #[.slice vf pf.length vfc, .slice vt pt.length vtc, .slice vs ps.length vsc, .slice vb pb.length vbc] 30) := ⟨_, rfl⟩
  have hb3 : Below w.heap.size w w3 := by rw [hw3]; exact below_of_alloc2 _ _ _
  have hx := alloc2_fst w (.cells #[.slice uf pf.length ufc, .slice ut pt.length utc, .slice us ps.length usc, .slice ub pb.length ubc] 26) (.cells #[.slice vf pf.length vfc, .slice vt pt.length vtc, .slice vs ps.length vsc, .slice vb pb.length vbc] 30)
  have hy := alloc2_snd w (.cells #[.slice uf pf.length ufc, .slice ut pt.length utc, .slice us ps.length usc, .slice ub pb.length ubc] 26) (.cells #[.slice vf pf.length vfc, .slice vt pt.length vtc, .slice vs ps.length vsc, .slice vb pb.length vbc] 30)
  rw [← hw3] at hx hy
  have hs3 : w3.heap.size = w.heap.size + 2 := by rw [hw3]; simp
  have c0 : w3.cell? ⟨w.heap.size, 0, none⟩ = some (.slice uf pf.length ufc) := by rw [cell_at hx]; rfl
  have c1 : w3.cell? ⟨w.heap.size, 1, none⟩ = some (.slice ut pt.length utc) := by rw [cell_at hx]; rfl
  have c2 : w3.cell? ⟨w.heap.size, 2, none⟩ = some (.slice us ps.length usc) := by rw [cell_at hx]; rfl
  have c3 : w3.cell? ⟨w.heap.size, 3, none⟩ = some (.slice ub pb.length ubc) := by rw [cell_at hx]; rfl
  have d0 : w3.cell? ⟨w.heap.size + 1, 0, none⟩ = some (.slice vf pf.length vfc) := by rw [cell_at hy]; rfl
  have d1 : w3.cell? ⟨w.heap.size + 1, 1, none⟩ = some (.slice vt pt.length vtc) := by rw [cell_at hy]; rfl
  have d2 : w3.cell? ⟨w.heap.size + 1, 2, none⟩ = some (.slice vs ps.length vsc) := by rw [cell_at hy]; rfl
  have d3 : w3.cell? ⟨w.heap.size + 1, 3, none⟩ = some (.slice vb pb.length vbc) := by rw [cell_at hy]; rfl
  have H := Lib.hid (h.below hb3)
  have H' := Lib.hid (h'.below hb3)
  have HB3 := Lib.hid (And.intro hb3 (And.intro c3 (And.intro d2 d3)))
  have HL := Lib.hid hl
  have l1 : ¬ (1000 : Int) < (pb.length : Int) := by have h9 : pb.length ≤ 1000 := hl.b; omega
  have l0 : ¬ (1000 : Int) < (ps.length : Int) := by have h9 : ps.length ≤ 1000 := hl.s; omega
  clear h h' hb3 hx hy hl
  have I1 := Lib.hid (ints_same ⟨uf, ufc⟩ ⟨vf, vfc⟩ pf w3 H.out.f H'.out.f HL.out.f)
  have I2 := Lib.hid (ints_same ⟨ut, utc⟩ ⟨vt, vtc⟩ pt w3 H.out.t H'.out.t HL.out.t)
  unfold SL.v at I1 I2
  go_enter Tryd.func16, Tryd.ntmps16
  go_upto_region 1 with (fail)
  rw [← hw3]
  clear hw3
  go_wp2_with (go_at_call 15; first | (with_reducible refine I1.out.mono ?_; rintro e w' ⟨rfl, rfl⟩) | (with_reducible refine I2.out.mono ?_; rintro e w' ⟨rfl, rfl⟩))
  go_loopw [44] (fun i wr => ∃ k : Nat, k ≤ ps.length ∧ i = .int .i64 k ∧ Hid (Below w3.heap.size w3 wr)) (fun i _ => ps.length - (intOf i).toNat)
  case atStart => exact ⟨0, Nat.zero_le _, rfl, Lib.hid (Below.refl _ _)⟩
  case round =>
    obtain ⟨k, hk, rfl, HB⟩ := hrel
    by_cases hlt : k < ps.length
    · skip
      obtain ⟨ad, he, g0, g1⟩ := (H.out.s.below HB.out).at_ k hlt
      obtain ⟨ad', he', g0', g1'⟩ := (H'.out.s.below HB.out).at_ k hlt
      obtain rfl : us = some ad := he
      obtain rfl : vs = some ad' := he'
      obtain ⟨w4, hw4⟩ : ∃ w4, w4 = wr.alloc (.cells #[.int .i64 ps[k].1, .int .i64 ps[k].2] 50) := ⟨_, rfl⟩
      have b4 : Below wr.heap.size wr w4 := by rw [hw4]; exact (Below.refl _ _).alloc (Nat.le_refl _) _
      have hx4 : w4.heap[wr.heap.size]? = some (.cells #[.int .i64 ps[k].1, .int .i64 ps[k].2] 50 (0, 0)) := by rw [hw4]; exact heap_alloc_new wr _
      have q0 : w4.cell? ⟨wr.heap.size, 0, none⟩ = some (.int .i64 ps[k].1) := by rw [cell_at hx4]; rfl
      have q1 : w4.cell? ⟨wr.heap.size, 1, none⟩ = some (.int .i64 ps[k].2) := by rw [cell_at hx4]; rfl
      have e2 := keep_cell (HB.out.trans (b4.mono HB.out.size)) HB3.out.2.2.1
      have r0 := keep_cell b4 g0'
      have r1 := keep_cell b4 g1'
      have HN := Lib.hid (HB.out.trans (b4.mono HB.out.size))
      clear hx4 g0' g1'
      go_upto_region 6 with (fail)
      rw [← hw4]
      clear hw4 b4
      go_quiet (fail)
      go_wp2
      go_roundw
      case rel => exact ⟨k + 1, by omega, by go_num, Lib.hid (below_drewN HN.out _)⟩
      case measure => simp [intOf]; omega
    · skip
      have c3' := keep_cell HB.out HB3.out.2.1
      go_wp2
      clear hlt hk c3'
      go_loopw [60] (fun i wr => ∃ k : Nat, k ≤ pb.length ∧ i = .int .i64 k ∧ Hid (Below w3.heap.size w3 wr)) (fun i _ => pb.length - (intOf i).toNat)
      case atStart => exact ⟨0, Nat.zero_le _, rfl, HB⟩
      case round =>
        obtain ⟨k, hk, rfl, HB⟩ := hrel
        by_cases hlt : k < pb.length
        · skip
          obtain ⟨ad, he, g0, g1⟩ := (H.out.b.below HB.out).at_ k hlt
          obtain ⟨ad', he', g0', g1'⟩ := (H'.out.b.below HB.out).at_ k hlt
          obtain rfl : ub = some ad := he
          obtain rfl : vb = some ad' := he'
          obtain ⟨w4, hw4⟩ : ∃ w4, w4 = wr.alloc (.cells #[.int .i64 pb[k].1, .int .i64 pb[k].2] 54) := ⟨_, rfl⟩
          have b4 : Below wr.heap.size wr w4 := by rw [hw4]; exact (Below.refl _ _).alloc (Nat.le_refl _) _
          have hx4 : w4.heap[wr.heap.size]? = some (.cells #[.int .i64 pb[k].1, .int .i64 pb[k].2] 54 (0, 0)) := by rw [hw4]; exact heap_alloc_new wr _
          have q0 : w4.cell? ⟨wr.heap.size, 0, none⟩ = some (.int .i64 pb[k].1) := by rw [cell_at hx4]; rfl
          have q1 : w4.cell? ⟨wr.heap.size, 1, none⟩ = some (.int .i64 pb[k].2) := by rw [cell_at hx4]; rfl
          have e2 := keep_cell (HB.out.trans (b4.mono HB.out.size)) HB3.out.2.2.2
          have r0 := keep_cell b4 g0'
          have r1 := keep_cell b4 g1'
          have HN := Lib.hid (HB.out.trans (b4.mono HB.out.size))
          clear hx4 g0' g1'
          go_upto_region 12 with (fail)
          rw [← hw4]
          clear hw4 b4
          go_quiet (fail)
          go_wp2
          go_roundw
          case rel => exact ⟨k + 1, by omega, by go_num, Lib.hid (below_drewN HN.out _)⟩
          case measure => simp [intOf]; omega
        · skip
          go_wp2
          go_ret
          exact ⟨rfl, HB3.out.1.trans (HB.out.mono HB3.out.1.size)⟩
end Go.Proofs.YtedalanhjhiehaaDoor
