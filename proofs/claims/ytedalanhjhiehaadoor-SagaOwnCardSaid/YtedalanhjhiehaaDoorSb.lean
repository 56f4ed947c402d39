import Derived.Test.YtedalanhjhiehaaDoorSa
set_option linter.unusedSimpArgs false
set_option linter.unusedVariables false
namespace Go.Proofs.YtedalanhjhiehaaDoor
open Go.RowKit
open YtedalanhjhiehaaDoorW.PrintWords (nums ReadsInt rd own_slice own_typed Kd)

/-- a state played on: what is reached, how far, and the error -/
def rplG : StateP → Nat → List RecP → StateP × Nat × Int
  | s, i, [] => (s, i, 0)
  | s, i, r :: rs => if (takeP s r).2 = 0 then rplG (takeP s r).1 (i + 1) rs else (s, i, (takeP s r).2)
def RpP (w : World) (x : StateP × Nat × Int) (e : Ending) (w' : World) : Prop := ∃ v' : SV, e = .returned (.tuple #[stV v' x.1, .int .i64 x.2.1, .int .i64 x.2.2]) ∧ OwSt w' w.heap.size v' x.1 ∧ Below w.heap.size w w'
theorem rplG_drop {rs : List RecP} {k : Nat} {s s' : StateP} {e' : Int} (hk : k < rs.length) (hx : takeP s rs[k] = (s', e')) : rplG s k (rs.drop k) = if e' = 0 then rplG s' (k + 1) (rs.drop (k + 1)) else (s, k, e') := by
  rw [List.drop_eq_getElem_cons hk, rplG, hx]
theorem rplG_end {rs : List RecP} {s : StateP} : rplG s rs.length (rs.drop rs.length) = (s, rs.length, 0) := by rw [List.drop_length]; rfl

set_option maxHeartbeats 8000000 in
set_option maxRecDepth 100000 in
theorem replay_any (sl : SL) (rs : List RecP) (w : World) (h : RdR w sl rs) (hz : ∀ r ∈ rs, Lens r.plan) (hl : rs.length ≤ 900) (hT : Tab w) :
    Calls Tryd.prog 14 #[sl.v rs.length] w (RpP w (rplG noState 0 rs)) := by
  obtain ⟨A, cp⟩ := sl
  obtain ⟨w3, hw3⟩ : ∃ w3, w3 = w.alloc (.cells stZero 34) := ⟨_, rfl⟩
  have hb3 : Below w.heap.size w w3 := by rw [hw3]; exact (Below.refl _ _).alloc (Nat.le_refl _) _
  have hx3 : w3.heap[w.heap.size]? = some (.cells (stCells nilV noState) 34 (0, 0)) := by rw [hw3]; exact heap_alloc_new w _
  have H := Lib.hid h
  have HZ := Lib.hid hz
  have HT := Lib.hid hT
  have HB3 := Lib.hid (And.intro hb3 hx3)
  clear h hz hT hb3 hx3
  unfold stZero SL.v at *
  go_enter Tryd.func14, Tryd.ntmps14
  go_wp2
  rw [← hw3]
  clear hw3
  go_loopw [11] (fun i wr => ∃ (k : Nat) (v : SV) (s : StateP), k ≤ rs.length ∧ i = .int .i64 k ∧ Hid (wr.heap[w.heap.size]? = some (.cells (stCells v s) 34 (0, 0))) ∧ Hid (OwSt wr (w.heap.size + 1) v s) ∧ Hid (Below w.heap.size w wr) ∧ Hid (Sz k s) ∧ Hid (rplG noState 0 rs = rplG s k (rs.drop k))) (fun i _ => rs.length - (intOf i).toNat)
  case atStart => exact ⟨0, nilV, noState, Nat.zero_le _, rfl, Lib.hid HB3.out.2, Lib.hid (owSt_nil _ _), Lib.hid HB3.out.1, Lib.hid Sz.none, Lib.hid rfl⟩
  case round =>
    obtain ⟨k, v, s, hk, rfl, HC, HO, HB, HS, HG⟩ := hrel
    have hlt1 := lt_of HC.out
    by_cases hlt : k < rs.length
    · obtain ⟨ad, u, he, hu, r0, r1, r2, r3, r4, r5⟩ := (H.out.below HB.out).at_ k hlt
      obtain rfl : A = some ad := he
      obtain ⟨s', e', hx⟩ : ∃ s' e', takeP s rs[k] = (s', e') := ⟨_, _, rfl⟩
      have HG2 := Lib.hid (HG.out.trans (rplG_drop hlt hx))
      have c0 : wr.cell? ⟨w.heap.size, 0, none⟩ = some (.int .i64 s.num) := by rw [cell_at HC.out]; rfl
      have c1 : wr.cell? ⟨w.heap.size, 1, none⟩ = some (.int .i64 s.ph) := by rw [cell_at HC.out]; rfl
      have c2 : wr.cell? ⟨w.heap.size, 2, none⟩ = some (v.p.f.v s.plan.fr.length) := by rw [cell_at HC.out]; rfl
      have c3 : wr.cell? ⟨w.heap.size, 3, none⟩ = some (v.p.t.v s.plan.tt.length) := by rw [cell_at HC.out]; rfl
      have c4 : wr.cell? ⟨w.heap.size, 4, none⟩ = some (v.p.s.v s.plan.steps.length) := by rw [cell_at HC.out]; rfl
      have c5 : wr.cell? ⟨w.heap.size, 5, none⟩ = some (v.p.b.v s.plan.before.length) := by rw [cell_at HC.out]; rfl
      have c6 : wr.cell? ⟨w.heap.size, 6, none⟩ = some (v.o.v s.op.length) := by rw [cell_at HC.out]; rfl
      have c7 : wr.cell? ⟨w.heap.size, 7, none⟩ = some (v.d.v s.dn.length) := by rw [cell_at HC.out]; rfl
      obtain ⟨w4, hw4⟩ : ∃ w4, w4 = wr.alloc (.cells (recCells u rs[k]) 39) := ⟨_, rfl⟩
      have b4 : Below wr.heap.size wr w4 := by rw [hw4]; exact (Below.refl _ _).alloc (Nat.le_refl _) _
      have hs4 : w4.heap.size = wr.heap.size + 1 := by rw [hw4]; simp
      unfold SL.v at *
      unfold recCells at hw4
      unfold SL.v at hw4
      go_upto_region 5 with (go_at_call 7; rw [← hw4]; clear hw4; refine (take_any v s u rs[k] _ (HO.out.rd.below b4) (HS.out.lens (by omega)) (hu.below b4) (HZ.out _ (List.getElem_mem hlt)) (HT.out.below (HB.out.trans (b4.mono HB.out.size))) HS.out.n0 (by have := HS.out.n1; omega)).mono ?_; rw [hx]; rintro e w5 ⟨v', rfl, ho, hb⟩; have HO5 := Lib.hid (And.intro ho (b4.trans (hb.mono b4.size))); have C0 := keep_cell (b4.trans (hb.mono b4.size)) c0; have C1 := keep_cell (b4.trans (hb.mono b4.size)) c1; have C2 := keep_cell (b4.trans (hb.mono b4.size)) c2; have C3 := keep_cell (b4.trans (hb.mono b4.size)) c3; have C4 := keep_cell (b4.trans (hb.mono b4.size)) c4; have C5 := keep_cell (b4.trans (hb.mono b4.size)) c5; have C6 := keep_cell (b4.trans (hb.mono b4.size)) c6; have C7 := keep_cell (b4.trans (hb.mono b4.size)) c7; clear ho hb c0 c1 c2 c3 c4 c5 c6 c7 r0 r1 r2 r3 r4 r5)
      obtain ⟨w6, hw6⟩ : ∃ w6, w6 = w5.alloc (.cells (stCells v' s') 34) := ⟨_, rfl⟩
      have hb6 : Below w5.heap.size w5 w6 := by rw [hw6]; exact (Below.refl _ _).alloc (Nat.le_refl _) _
      have hx6 := (hb6.block _ (by have := HO5.out.2.size; omega)).trans ((HO5.out.2.block _ hlt1).trans HC.out)
      have hy6 : w6.heap[w5.heap.size]? = some (.cells (stCells v' s') 34 (0, 0)) := by rw [hw6]; exact heap_alloc_new w5 _
      have hb6w : Below w.heap.size w w6 := HB.out.trans ((HO5.out.2.trans (hb6.mono HO5.out.2.size)).mono HB.out.size)
      have O6 : OwSt w6 (w.heap.size + 1) v' s' := (HO5.out.1.below hb6).lower (by omega)
      have V6 : OwSt w6 (w.heap.size + 1) v s := (HO.out.below (HO5.out.2.trans (hb6.mono HO5.out.2.size)))
      clear C0 C1 C2 C3 C4 C5 C6 C7
      have c0 : w6.cell? ⟨w.heap.size, 0, none⟩ = some (.int .i64 s.num) := by rw [cell_at hx6]; rfl
      have c1 : w6.cell? ⟨w.heap.size, 1, none⟩ = some (.int .i64 s.ph) := by rw [cell_at hx6]; rfl
      have c2 : w6.cell? ⟨w.heap.size, 2, none⟩ = some (v.p.f.v s.plan.fr.length) := by rw [cell_at hx6]; rfl
      have c3 : w6.cell? ⟨w.heap.size, 3, none⟩ = some (v.p.t.v s.plan.tt.length) := by rw [cell_at hx6]; rfl
      have c4 : w6.cell? ⟨w.heap.size, 4, none⟩ = some (v.p.s.v s.plan.steps.length) := by rw [cell_at hx6]; rfl
      have c5 : w6.cell? ⟨w.heap.size, 5, none⟩ = some (v.p.b.v s.plan.before.length) := by rw [cell_at hx6]; rfl
      have c6 : w6.cell? ⟨w.heap.size, 6, none⟩ = some (v.o.v s.op.length) := by rw [cell_at hx6]; rfl
      have c7 : w6.cell? ⟨w.heap.size, 7, none⟩ = some (v.d.v s.dn.length) := by rw [cell_at hx6]; rfl
      have f0 : w6.frozen? ⟨w.heap.size, 0, none⟩ = false := frozen_at hx6 _
      have f1 : w6.frozen? ⟨w.heap.size, 1, none⟩ = false := frozen_at hx6 _
      have f2 : w6.frozen? ⟨w.heap.size, 2, none⟩ = false := frozen_at hx6 _
      have f3 : w6.frozen? ⟨w.heap.size, 3, none⟩ = false := frozen_at hx6 _
      have f4 : w6.frozen? ⟨w.heap.size, 4, none⟩ = false := frozen_at hx6 _
      have f5 : w6.frozen? ⟨w.heap.size, 5, none⟩ = false := frozen_at hx6 _
      have f6 : w6.frozen? ⟨w.heap.size, 6, none⟩ = false := frozen_at hx6 _
      have f7 : w6.frozen? ⟨w.heap.size, 7, none⟩ = false := frozen_at hx6 _
      have d0 : w6.cell? ⟨w5.heap.size, 0, none⟩ = some (.int .i64 s'.num) := by rw [cell_at hy6]; rfl
      have d1 : w6.cell? ⟨w5.heap.size, 1, none⟩ = some (.int .i64 s'.ph) := by rw [cell_at hy6]; rfl
      have d2 : w6.cell? ⟨w5.heap.size, 2, none⟩ = some (v'.p.f.v s'.plan.fr.length) := by rw [cell_at hy6]; rfl
      have d3 : w6.cell? ⟨w5.heap.size, 3, none⟩ = some (v'.p.t.v s'.plan.tt.length) := by rw [cell_at hy6]; rfl
      have d4 : w6.cell? ⟨w5.heap.size, 4, none⟩ = some (v'.p.s.v s'.plan.steps.length) := by rw [cell_at hy6]; rfl
      have d5 : w6.cell? ⟨w5.heap.size, 5, none⟩ = some (v'.p.b.v s'.plan.before.length) := by rw [cell_at hy6]; rfl
      have d6 : w6.cell? ⟨w5.heap.size, 6, none⟩ = some (v'.o.v s'.op.length) := by rw [cell_at hy6]; rfl
      have d7 : w6.cell? ⟨w5.heap.size, 7, none⟩ = some (v'.d.v s'.dn.length) := by rw [cell_at hy6]; rfl
      unfold stCells SL.v at hw6
      rw [← hw6]
      clear hw6
      unfold SL.v at d2 d3 d4 d5 d6 d7 c2 c3 c4 c5 c6 c7
      by_cases he0 : e' = 0
      · subst he0
        have HG3 : Hid (rplG noState 0 rs = rplG s' (k + 1) (rs.drop (k + 1))) := Lib.hid (by rw [HG2.out, if_pos rfl])
        have HS3 : Hid (Sz (k + 1) s') := Lib.hid (by have h2 := takeP_ok (s := s) (r := rs[k]) (by rw [hx]); rw [hx] at h2; have h3 : s' = nextS s rs[k] := h2.1; rw [h3]; exact HS.out.next (HZ.out _ (List.getElem_mem hlt)))
        have hx8 := (heap_set_same (heap_set_same (heap_set_same (heap_set_same (heap_set_same (heap_set_same (heap_set_same (heap_set_same hx6 0 (.int .i64 s'.num)) 1 (.int .i64 s'.ph)) 2 (v'.p.f.v s'.plan.fr.length)) 3 (v'.p.t.v s'.plan.tt.length)) 4 (v'.p.s.v s'.plan.steps.length)) 5 (v'.p.b.v s'.plan.before.length)) 6 (v'.o.v s'.op.length)) 7 (v'.d.v s'.dn.length))
        simp only [List.setIfInBounds_toArray, List.set_cons_zero, List.set_cons_succ] at hx8
        have k8 : Kp (w.heap.size + 1) w6 ((((((((w6.setCell ⟨w.heap.size, 0, none⟩ (.int .i64 s'.num)).setCell ⟨w.heap.size, 1, none⟩ (.int .i64 s'.ph)).setCell ⟨w.heap.size, 2, none⟩ (v'.p.f.v s'.plan.fr.length)).setCell ⟨w.heap.size, 3, none⟩ (v'.p.t.v s'.plan.tt.length)).setCell ⟨w.heap.size, 4, none⟩ (v'.p.s.v s'.plan.steps.length)).setCell ⟨w.heap.size, 5, none⟩ (v'.p.b.v s'.plan.before.length)).setCell ⟨w.heap.size, 6, none⟩ (v'.o.v s'.op.length)).setCell ⟨w.heap.size, 7, none⟩ (v'.d.v s'.dn.length)) := (((((((((Kp.refl (w.heap.size + 1) w6).set (p := ⟨_, 0, none⟩) (Nat.lt_succ_self _) _).set (p := ⟨_, 1, none⟩) (Nat.lt_succ_self _) _).set (p := ⟨_, 2, none⟩) (Nat.lt_succ_self _) _).set (p := ⟨_, 3, none⟩) (Nat.lt_succ_self _) _).set (p := ⟨_, 4, none⟩) (Nat.lt_succ_self _) _).set (p := ⟨_, 5, none⟩) (Nat.lt_succ_self _) _).set (p := ⟨_, 6, none⟩) (Nat.lt_succ_self _) _).set (p := ⟨_, 7, none⟩) (Nat.lt_succ_self _) _)
        have hb8 : Hid (Below w.heap.size w ((((((((w6.setCell ⟨w.heap.size, 0, none⟩ (.int .i64 s'.num)).setCell ⟨w.heap.size, 1, none⟩ (.int .i64 s'.ph)).setCell ⟨w.heap.size, 2, none⟩ (v'.p.f.v s'.plan.fr.length)).setCell ⟨w.heap.size, 3, none⟩ (v'.p.t.v s'.plan.tt.length)).setCell ⟨w.heap.size, 4, none⟩ (v'.p.s.v s'.plan.steps.length)).setCell ⟨w.heap.size, 5, none⟩ (v'.p.b.v s'.plan.before.length)).setCell ⟨w.heap.size, 6, none⟩ (v'.o.v s'.op.length)).setCell ⟨w.heap.size, 7, none⟩ (v'.d.v s'.dn.length))) := st_below (st_below (st_below (st_below (st_below (st_below (st_below (st_below ((Lib.hid hb6w)) (Nat.le_refl _)) (Nat.le_refl _)) (Nat.le_refl _)) (Nat.le_refl _)) (Nat.le_refl _)) (Nat.le_refl _)) (Nat.le_refl _)) (Nat.le_refl _)
        have HE := Lib.hid (And.intro hx8 (And.intro (O6.step k8 (by omega)) hb8.out))
        clear hx8 k8 hb8 O6 V6 hx6 hy6 hb6 hb6w hx
        go_wp2
        go_roundw
        case rel => exact ⟨k + 1, v', s', by omega, by go_num, Lib.hid HE.out.1, Lib.hid HE.out.2.1, Lib.hid HE.out.2.2, HS3, HG3⟩
        case measure => simp [intOf]; omega
      · have he1 : (e' == 0) = false := by simp [he0]
        have HG3 : Hid (rplG noState 0 rs = (s, k, e')) := Lib.hid (by rw [HG2.out, if_neg he0])
        have hx8 := (heap_set_same (heap_set_same (heap_set_same (heap_set_same (heap_set_same (heap_set_same (heap_set_same (heap_set_same hx6 0 (.int .i64 s.num)) 1 (.int .i64 s.ph)) 2 (v.p.f.v s.plan.fr.length)) 3 (v.p.t.v s.plan.tt.length)) 4 (v.p.s.v s.plan.steps.length)) 5 (v.p.b.v s.plan.before.length)) 6 (v.o.v s.op.length)) 7 (v.d.v s.dn.length))
        simp only [List.setIfInBounds_toArray, List.set_cons_zero, List.set_cons_succ] at hx8
        have k8 : Kp (w.heap.size + 1) w6 ((((((((w6.setCell ⟨w.heap.size, 0, none⟩ (.int .i64 s.num)).setCell ⟨w.heap.size, 1, none⟩ (.int .i64 s.ph)).setCell ⟨w.heap.size, 2, none⟩ (v.p.f.v s.plan.fr.length)).setCell ⟨w.heap.size, 3, none⟩ (v.p.t.v s.plan.tt.length)).setCell ⟨w.heap.size, 4, none⟩ (v.p.s.v s.plan.steps.length)).setCell ⟨w.heap.size, 5, none⟩ (v.p.b.v s.plan.before.length)).setCell ⟨w.heap.size, 6, none⟩ (v.o.v s.op.length)).setCell ⟨w.heap.size, 7, none⟩ (v.d.v s.dn.length)) := (((((((((Kp.refl (w.heap.size + 1) w6).set (p := ⟨_, 0, none⟩) (Nat.lt_succ_self _) _).set (p := ⟨_, 1, none⟩) (Nat.lt_succ_self _) _).set (p := ⟨_, 2, none⟩) (Nat.lt_succ_self _) _).set (p := ⟨_, 3, none⟩) (Nat.lt_succ_self _) _).set (p := ⟨_, 4, none⟩) (Nat.lt_succ_self _) _).set (p := ⟨_, 5, none⟩) (Nat.lt_succ_self _) _).set (p := ⟨_, 6, none⟩) (Nat.lt_succ_self _) _).set (p := ⟨_, 7, none⟩) (Nat.lt_succ_self _) _)
        have hb8 : Hid (Below w.heap.size w ((((((((w6.setCell ⟨w.heap.size, 0, none⟩ (.int .i64 s.num)).setCell ⟨w.heap.size, 1, none⟩ (.int .i64 s.ph)).setCell ⟨w.heap.size, 2, none⟩ (v.p.f.v s.plan.fr.length)).setCell ⟨w.heap.size, 3, none⟩ (v.p.t.v s.plan.tt.length)).setCell ⟨w.heap.size, 4, none⟩ (v.p.s.v s.plan.steps.length)).setCell ⟨w.heap.size, 5, none⟩ (v.p.b.v s.plan.before.length)).setCell ⟨w.heap.size, 6, none⟩ (v.o.v s.op.length)).setCell ⟨w.heap.size, 7, none⟩ (v.d.v s.dn.length))) := st_below (st_below (st_below (st_below (st_below (st_below (st_below (st_below ((Lib.hid hb6w)) (Nat.le_refl _)) (Nat.le_refl _)) (Nat.le_refl _)) (Nat.le_refl _)) (Nat.le_refl _)) (Nat.le_refl _)) (Nat.le_refl _)) (Nat.le_refl _)
        have HE := Lib.hid (And.intro hx8 (And.intro ((V6.step k8 (by omega)).lower (B' := w.heap.size) (by omega)) hb8.out))
        clear hx8 k8 hb8 O6 V6 hx6 hy6 hb6 hb6w hx he0
        go_wp2
        refine bodyPost_ret (v := .tuple #[stV v s, .int .i64 k, .int .i64 e']) (YtedalanhjhiehaaDoorW.PrintWords.results_list (rs := [.cell 2 34, .tmp 3, .tmp 4]) rfl (by simp) (.cell w.heap.size 34 _ _ _ rfl HE.out.1 Tryd.underlying34 rfl (by kernel_rfl) (.tmp (.tmp .nil)))) rfl ?_
        rw [HG3.out]
        exact ⟨v, rfl, HE.out.2.1, HE.out.2.2⟩
    · skip
      obtain rfl : k = rs.length := by omega
      have HG3 : Hid (rplG noState 0 rs = (s, rs.length, 0)) := Lib.hid (by rw [HG.out]; exact rplG_end)
      have c0 : wr.cell? ⟨w.heap.size, 0, none⟩ = some (.int .i64 s.num) := by rw [cell_at HC.out]; rfl
      have c1 : wr.cell? ⟨w.heap.size, 1, none⟩ = some (.int .i64 s.ph) := by rw [cell_at HC.out]; rfl
      have c2 : wr.cell? ⟨w.heap.size, 2, none⟩ = some (v.p.f.v s.plan.fr.length) := by rw [cell_at HC.out]; rfl
      have c3 : wr.cell? ⟨w.heap.size, 3, none⟩ = some (v.p.t.v s.plan.tt.length) := by rw [cell_at HC.out]; rfl
      have c4 : wr.cell? ⟨w.heap.size, 4, none⟩ = some (v.p.s.v s.plan.steps.length) := by rw [cell_at HC.out]; rfl
      have c5 : wr.cell? ⟨w.heap.size, 5, none⟩ = some (v.p.b.v s.plan.before.length) := by rw [cell_at HC.out]; rfl
      have c6 : wr.cell? ⟨w.heap.size, 6, none⟩ = some (v.o.v s.op.length) := by rw [cell_at HC.out]; rfl
      have c7 : wr.cell? ⟨w.heap.size, 7, none⟩ = some (v.d.v s.dn.length) := by rw [cell_at HC.out]; rfl
      have f0 : wr.frozen? ⟨w.heap.size, 0, none⟩ = false := frozen_at HC.out _
      have f1 : wr.frozen? ⟨w.heap.size, 1, none⟩ = false := frozen_at HC.out _
      have f2 : wr.frozen? ⟨w.heap.size, 2, none⟩ = false := frozen_at HC.out _
      have f3 : wr.frozen? ⟨w.heap.size, 3, none⟩ = false := frozen_at HC.out _
      have f4 : wr.frozen? ⟨w.heap.size, 4, none⟩ = false := frozen_at HC.out _
      have f5 : wr.frozen? ⟨w.heap.size, 5, none⟩ = false := frozen_at HC.out _
      have f6 : wr.frozen? ⟨w.heap.size, 6, none⟩ = false := frozen_at HC.out _
      have f7 : wr.frozen? ⟨w.heap.size, 7, none⟩ = false := frozen_at HC.out _
      have hx8 := (heap_set_same (heap_set_same (heap_set_same (heap_set_same (heap_set_same (heap_set_same (heap_set_same (heap_set_same HC.out 0 (.int .i64 s.num)) 1 (.int .i64 s.ph)) 2 (v.p.f.v s.plan.fr.length)) 3 (v.p.t.v s.plan.tt.length)) 4 (v.p.s.v s.plan.steps.length)) 5 (v.p.b.v s.plan.before.length)) 6 (v.o.v s.op.length)) 7 (v.d.v s.dn.length))
      simp only [List.setIfInBounds_toArray, List.set_cons_zero, List.set_cons_succ] at hx8
      have k8 : Kp (w.heap.size + 1) wr ((((((((wr.setCell ⟨w.heap.size, 0, none⟩ (.int .i64 s.num)).setCell ⟨w.heap.size, 1, none⟩ (.int .i64 s.ph)).setCell ⟨w.heap.size, 2, none⟩ (v.p.f.v s.plan.fr.length)).setCell ⟨w.heap.size, 3, none⟩ (v.p.t.v s.plan.tt.length)).setCell ⟨w.heap.size, 4, none⟩ (v.p.s.v s.plan.steps.length)).setCell ⟨w.heap.size, 5, none⟩ (v.p.b.v s.plan.before.length)).setCell ⟨w.heap.size, 6, none⟩ (v.o.v s.op.length)).setCell ⟨w.heap.size, 7, none⟩ (v.d.v s.dn.length)) := (((((((((Kp.refl (w.heap.size + 1) wr).set (p := ⟨_, 0, none⟩) (Nat.lt_succ_self _) _).set (p := ⟨_, 1, none⟩) (Nat.lt_succ_self _) _).set (p := ⟨_, 2, none⟩) (Nat.lt_succ_self _) _).set (p := ⟨_, 3, none⟩) (Nat.lt_succ_self _) _).set (p := ⟨_, 4, none⟩) (Nat.lt_succ_self _) _).set (p := ⟨_, 5, none⟩) (Nat.lt_succ_self _) _).set (p := ⟨_, 6, none⟩) (Nat.lt_succ_self _) _).set (p := ⟨_, 7, none⟩) (Nat.lt_succ_self _) _)
      have hb8 : Hid (Below w.heap.size w ((((((((wr.setCell ⟨w.heap.size, 0, none⟩ (.int .i64 s.num)).setCell ⟨w.heap.size, 1, none⟩ (.int .i64 s.ph)).setCell ⟨w.heap.size, 2, none⟩ (v.p.f.v s.plan.fr.length)).setCell ⟨w.heap.size, 3, none⟩ (v.p.t.v s.plan.tt.length)).setCell ⟨w.heap.size, 4, none⟩ (v.p.s.v s.plan.steps.length)).setCell ⟨w.heap.size, 5, none⟩ (v.p.b.v s.plan.before.length)).setCell ⟨w.heap.size, 6, none⟩ (v.o.v s.op.length)).setCell ⟨w.heap.size, 7, none⟩ (v.d.v s.dn.length))) := st_below (st_below (st_below (st_below (st_below (st_below (st_below (st_below (HB) (Nat.le_refl _)) (Nat.le_refl _)) (Nat.le_refl _)) (Nat.le_refl _)) (Nat.le_refl _)) (Nat.le_refl _)) (Nat.le_refl _)) (Nat.le_refl _)
      have HE := Lib.hid (And.intro hx8 (And.intro ((HO.out.step k8 (by omega)).lower (B' := w.heap.size) (by omega)) hb8.out))
      unfold SL.v at c2 c3 c4 c5 c6 c7
      clear hx8 k8 hb8
      go_wp2
      refine bodyPost_ret (v := .tuple #[stV v s, .int .i64 rs.length, .int .i64 0]) (YtedalanhjhiehaaDoorW.PrintWords.results_list (rs := [.cell 2 34, .tmp 3, .tmp 4]) rfl (by simp) (.cell w.heap.size 34 _ _ _ rfl HE.out.1 Tryd.underlying34 rfl (by kernel_rfl) (.tmp (.tmp .nil)))) rfl ?_
      rw [HG3.out]
      exact ⟨v, rfl, HE.out.2.1, HE.out.2.2⟩
end Go.Proofs.YtedalanhjhiehaaDoor
