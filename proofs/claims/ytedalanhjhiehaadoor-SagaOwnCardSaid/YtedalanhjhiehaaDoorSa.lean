import Derived.Test.YtedalanhjhiehaaDoorRb
import Derived.Test.YtedalanhjhiehaaDoorRc
import Derived.Test.YtedalanhjhiehaaDoorRe
import Derived.Test.YtedalanhjhiehaaDoorRf
import Derived.Test.YtedalanhjhiehaaDoorRg
set_option linter.unusedSimpArgs false
set_option linter.unusedVariables false
namespace Go.Proofs.YtedalanhjhiehaaDoor
open Go.RowKit
open YtedalanhjhiehaaDoorW.PrintWords (nums ReadsInt rd own_slice own_typed Kd)

/-- Take, whatever it is asked -/
theorem take_any (v : SV) (s : StateP) (u : PV) (r : RecP) (w : World) (h : RdSt w v s) (hl : LensS s) (hr : RdPlan w u r.plan) (hlr : Lens r.plan) (hT : Tab w) (hn0 : 0 ≤ s.num) (hn1 : s.num ≤ 1000000) :
    Calls Tryd.prog 7 #[stV v s, recV u r] w (TkP w (takeP s r)) := by
  by_cases hf : formedB r = true
  · by_cases hw : whenB r.kind s.ph = true
    · by_cases ha : askE s r = 0
      · obtain ⟨h1, h8⟩ := formed_kind hf
        rcases (by omega : r.kind = 1 ∨ r.kind = 2 ∨ r.kind = 3 ∨ r.kind = 4 ∨ r.kind = 5 ∨ r.kind = 6 ∨ r.kind = 7 ∨ r.kind = 8) with hk | hk | hk | hk | hk | hk | hk | hk
        · exact take_1 v s u r w h hl hr hlr hT hf hw ha hk hn0 hn1
        · exact take_2 v s u r w h hl hr hlr hT hf hw ha hk
        · exact take_3 v s u r w h hl hr hlr hT hf hw ha hk
        · exact take_4 v s u r w h hl hr hlr hT hf hw ha hk
        · exact take_5 v s u r w h hl hr hlr hT hf hw ha hk
        · exact take_6 v s u r w h hl hr hlr hT hf hw ha hk
        · exact take_7 v s u r w h hl hr hlr hT hf hw ha hk
        · exact take_8 v s u r w h hl hr hlr hT hf hw ha hk
      · exact take_ask v s u r w h hl hr hlr hT hf hw ha
    · exact take_state v s u r w h hl hr hlr hT hf (by simpa using hw)
  · exact take_form v s u r w h hl hr hlr hT (by simpa using hf)

/-- how much a state may hold behind k records -/
structure Sz (k : Nat) (s : StateP) : Prop where
  n0 : 0 ≤ s.num
  n1 : s.num ≤ k
  p : Lens s.plan
  o : s.op.length ≤ k
  d : s.dn.length ≤ k
theorem Sz.none : Sz 0 noState := ⟨by decide, by decide, Lens.none, by decide, by decide⟩
theorem Sz.lens {k : Nat} {s : StateP} (h : Sz k s) (hk : k ≤ 1000) : LensS s := ⟨h.p, Nat.le_trans h.o hk, Nat.le_trans h.d hk⟩
theorem dropL_len (xs : List Int) (v : Int) : (dropL xs v).length ≤ xs.length := by unfold dropL; exact List.length_filter_le _ _
theorem Sz.next {k : Nat} {s : StateP} {r : RecP} (h : Sz k s) (hr : Lens r.plan) : Sz (k + 1) (nextS s r) := by
  have h1 := dropL_len s.op r.step
  have h2 := dropL_len s.dn r.step
  obtain ⟨a, b, c, d, e⟩ := h
  unfold nextS
  repeat' split
  all_goals first
    | exact ⟨by simp; omega, by simp; omega, hr, by simp, by simp⟩
    | exact ⟨by simpa using a, by simp; omega, c, by simp; omega, by simp; omega⟩
theorem takeP_ok {s : StateP} {r : RecP} (h : (takeP s r).2 = 0) : (takeP s r).1 = nextS s r ∧ formedB r = true ∧ whenB r.kind s.ph = true ∧ askE s r = 0 := by
  unfold takeP at h ⊢
  split at h
  · exact absurd h (by decide)
  · split at h
    · exact absurd h (by decide)
    · split at h
      · exact absurd h (by assumption)
      · rename_i h1 h2 h3
        rw [if_neg h1, if_neg h2, if_neg h3]
        exact ⟨rfl, by simpa using h1, by simpa using h2, by simpa using h3⟩
theorem takeP_no {s : StateP} {r : RecP} (h : (takeP s r).2 ≠ 0) : (takeP s r).1 = noState := by
  unfold takeP at h ⊢
  split
  · rfl
  · split
    · rfl
    · split
      · rfl
      · rename_i h1 h2 h3
        rw [if_neg h1, if_neg h2, if_neg h3] at h
        exact absurd rfl h

/-! ### rows of records -/
structure RdR (w : World) (s : SL) (rs : List RecP) : Prop where
  c : Kd.C kRec w s.a rs.length rs
  le : rs.length ≤ s.c
theorem RdR.below {w w' : World} {s : SL} {rs : List RecP} (h : RdR w s rs) (hb : Below w.heap.size w w') : RdR w' s rs := ⟨Kd.C_below h.c hb, h.le⟩
theorem kPlan_open {w : World} {p : PlanP} {cs : List Value} (h : kPlan.K w p cs) : ∃ u : PV, cs = [u.f.v p.fr.length, u.t.v p.tt.length, u.s.v p.steps.length, u.b.v p.before.length] ∧ RdPlan w u p := by
  obtain ⟨c0, c1, rfl, ⟨A0, n0, rfl, l0, r0⟩, c2, c3, rfl, ⟨A1, n1, rfl, l1, r1⟩, c4, c5, rfl, ⟨A2, n2, rfl, l2, r2⟩, ⟨A3, n3, rfl, l3, r3⟩⟩ := h
  exact ⟨⟨⟨A0, n0⟩, ⟨A1, n1⟩, ⟨A2, n2⟩, ⟨A3, n3⟩⟩, rfl, ⟨r0, l0⟩, ⟨r1, l1⟩, ⟨r2, l2⟩, ⟨r3, l3⟩⟩
theorem RdR.at_ {w : World} {s : SL} {rs : List RecP} (h : RdR w s rs) (k : Nat) (hk : k < rs.length) : ∃ ad u, s.a = some ad ∧ RdPlan w u rs[k].plan ∧
    w.cell? (ad.add (k * 6)) = some (.int .i64 rs[k].kind) ∧ w.cell? ⟨(ad.add (k * 6)).block, (ad.add (k * 6)).off + 1, none⟩ = some (.int .i64 rs[k].step) ∧
    w.cell? ⟨(ad.add (k * 6)).block, (ad.add (k * 6)).off + 2, none⟩ = some (u.f.v rs[k].plan.fr.length) ∧ w.cell? ⟨(ad.add (k * 6)).block, (ad.add (k * 6)).off + 3, none⟩ = some (u.t.v rs[k].plan.tt.length) ∧
    w.cell? ⟨(ad.add (k * 6)).block, (ad.add (k * 6)).off + 4, none⟩ = some (u.s.v rs[k].plan.steps.length) ∧ w.cell? ⟨(ad.add (k * 6)).block, (ad.add (k * 6)).off + 5, none⟩ = some (u.b.v rs[k].plan.before.length) := by
  obtain ⟨ad, e, hc⟩ := h.c.2.2 (by omega)
  obtain ⟨c, h1, ⟨c0, c1, rfl, h2, c2, c3, rfl, h3, h4⟩, h5⟩ := hc k _ (List.getElem?_eq_getElem hk)
  have e0 : c0 = [.int .i64 rs[k].kind] := h2
  have e1 : c2 = [.int .i64 rs[k].step] := h3
  obtain ⟨u, rfl, hu⟩ := kPlan_open h4
  subst e0; subst e1
  have hz : kRec.sz = 6 := rfl
  rw [hz] at h5
  have hf : ∀ j : Nat, 0 < j → ad.add (k * 6 + j) = ⟨(ad.add (k * 6)).block, (ad.add (k * 6)).off + j, none⟩ := fun j hj => YtedalanhjhiehaaDoorW.PrintWords.add_field _ _ j hj
  refine ⟨ad, u, e, hu, h5 0 _ rfl, ?_, ?_, ?_, ?_, ?_⟩
  · rw [← hf 1 (by omega)]; exact h5 1 _ rfl
  · rw [← hf 2 (by omega)]; exact h5 2 _ rfl
  · rw [← hf 3 (by omega)]; exact h5 3 _ rfl
  · rw [← hf 4 (by omega)]; exact h5 4 _ rfl
  · rw [← hf 5 (by omega)]; exact h5 5 _ rfl
end Go.Proofs.YtedalanhjhiehaaDoor
