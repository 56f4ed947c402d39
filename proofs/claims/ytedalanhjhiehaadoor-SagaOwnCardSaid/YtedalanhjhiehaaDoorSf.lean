import Derived.Test.YtedalanhjhiehaaDoorSe
import Derived.Test.YtedalanhjhiehaaDoorQv
import Derived.Test.YtedalanhjhiehaaDoorQs
set_option linter.unusedSimpArgs false
set_option linter.unusedVariables false
namespace Go.Proofs.YtedalanhjhiehaaDoor
open Go.RowKit
open YtedalanhjhiehaaDoorW.PrintWords (nums ReadsInt rd own_slice own_typed Kd)

theorem anc_replay (A : Option Addr) (c : Nat) (w : World) (h : RdR w ⟨A, c⟩ [⟨1, 0, P0⟩, ⟨2, 1, noPlan⟩, ⟨4, 1, noPlan⟩]) (hT : Tab w) :
    Calls Tryd.prog 14 #[.slice A 3 c] w (fun e w' => ∃ v1 : SV, e = .returned (.tuple #[.agg #[.int .i64 1, .int .i64 2, .slice v1.p.f.a 0 v1.p.f.c, .slice v1.p.t.a 0 v1.p.t.c, .slice v1.p.s.a 2 v1.p.s.c, .slice v1.p.b.a 1 v1.p.b.c, .slice v1.o.a 1 v1.o.c, .slice v1.d.a 0 v1.d.c], .int .i64 3, .int .i64 0]) ∧ OwSt w' w.heap.size v1 S1 ∧ Below w.heap.size w w') := by
  refine (replay_any ⟨A, c⟩ [⟨1, 0, P0⟩, ⟨2, 1, noPlan⟩, ⟨4, 1, noPlan⟩] w h ?_ (by decide) hT).mono ?_
  · intro r hr
    rcases List.mem_cons.1 hr with rfl | hr
    · exact ⟨by decide, by decide, by decide, by decide⟩
    rcases List.mem_cons.1 hr with rfl | hr
    · exact Lens.none
    rcases List.mem_cons.1 hr with rfl | hr
    · exact Lens.none
    · cases hr
  · unfold RpP
    rw [anc1]
    rintro e w' ⟨v1, rfl, h1, h2⟩
    exact ⟨v1, rfl, h1, h2⟩
theorem S1_lens : LensS S1 := ⟨⟨by decide, by decide, by decide, by decide⟩, by decide, by decide⟩
theorem S2_lens : LensS S2 := ⟨⟨by decide, by decide, by decide, by decide⟩, by decide, by decide⟩
theorem anc_top (v : SV) (w : World) (h : RdSt w v S1) : Calls Tryd.prog 11 #[.agg #[.int .i64 1, .int .i64 2, .slice v.p.f.a 0 v.p.f.c, .slice v.p.t.a 0 v.p.t.c, .slice v.p.s.a 2 v.p.s.c, .slice v.p.b.a 1 v.p.b.c, .slice v.o.a 1 v.o.c, .slice v.d.a 0 v.d.c]] w (fun e w' => e = .returned (.tuple #[.int .i64 1, .bool true]) ∧ Below w.heap.size w w') := by
  refine (top_any v S1 w h S1_lens).mono ?_
  unfold TopP
  rw [anc2]
  rintro e w' ⟨rfl, h2⟩
  exact ⟨rfl, h2⟩
theorem anc_take6 (v : SV) (w : World) (h : RdSt w v S1) (hT : Tab w) : Calls Tryd.prog 7 #[.agg #[.int .i64 1, .int .i64 2, .slice v.p.f.a 0 v.p.f.c, .slice v.p.t.a 0 v.p.t.c, .slice v.p.s.a 2 v.p.s.c, .slice v.p.b.a 1 v.p.b.c, .slice v.o.a 1 v.o.c, .slice v.d.a 0 v.d.c], .agg #[.int .i64 6, .int .i64 1, .slice none 0 0, .slice none 0 0, .slice none 0 0, .slice none 0 0]] w (fun e w' => ∃ v2 : SV, e = .returned (.tuple #[.agg #[.int .i64 1, .int .i64 2, .slice v2.p.f.a 0 v2.p.f.c, .slice v2.p.t.a 0 v2.p.t.c, .slice v2.p.s.a 2 v2.p.s.c, .slice v2.p.b.a 1 v2.p.b.c, .slice v2.o.a 0 v2.o.c, .slice v2.d.a 0 v2.d.c], .int .i64 0]) ∧ OwSt w' w.heap.size v2 S2 ∧ Below w.heap.size w w') := by
  refine (take_any v S1 ⟨⟨none, 0⟩, ⟨none, 0⟩, ⟨none, 0⟩, ⟨none, 0⟩⟩ ⟨6, 1, noPlan⟩ w h S1_lens (owPlan_nil w 0).rd Lens.none hT (by decide) (by decide)).mono ?_
  unfold TkP
  rw [anc3]
  rintro e w' ⟨v1, rfl, h1, h2⟩
  exact ⟨v1, rfl, h1, h2⟩
theorem anc_take8 (v : SV) (w : World) (h : RdSt w v S2) (hT : Tab w) : Calls Tryd.prog 7 #[.agg #[.int .i64 1, .int .i64 2, .slice v.p.f.a 0 v.p.f.c, .slice v.p.t.a 0 v.p.t.c, .slice v.p.s.a 2 v.p.s.c, .slice v.p.b.a 1 v.p.b.c, .slice v.o.a 0 v.o.c, .slice v.d.a 0 v.d.c], .agg #[.int .i64 8, .int .i64 0, .slice none 0 0, .slice none 0 0, .slice none 0 0, .slice none 0 0]] w (fun e w' => ∃ v2 : SV, e = .returned (.tuple #[.agg #[.int .i64 1, .int .i64 5, .slice v2.p.f.a 0 v2.p.f.c, .slice v2.p.t.a 0 v2.p.t.c, .slice v2.p.s.a 2 v2.p.s.c, .slice v2.p.b.a 1 v2.p.b.c, .slice v2.o.a 0 v2.o.c, .slice v2.d.a 0 v2.d.c], .int .i64 0]) ∧ OwSt w' w.heap.size v2 S3 ∧ Below w.heap.size w w') := by
  refine (take_any v S2 ⟨⟨none, 0⟩, ⟨none, 0⟩, ⟨none, 0⟩, ⟨none, 0⟩⟩ ⟨8, 0, noPlan⟩ w h S2_lens (owPlan_nil w 0).rd Lens.none hT (by decide) (by decide)).mono ?_
  unfold TkP
  rw [anc4]
  rintro e w' ⟨v1, rfl, h1, h2⟩
  exact ⟨v1, rfl, h1, h2⟩
theorem anc_may (v : SV) (w : World) (h : RdSt w v S1) : Calls Tryd.prog 10 #[.agg #[.int .i64 1, .int .i64 2, .slice v.p.f.a 0 v.p.f.c, .slice v.p.t.a 0 v.p.t.c, .slice v.p.s.a 2 v.p.s.c, .slice v.p.b.a 1 v.p.b.c, .slice v.o.a 1 v.o.c, .slice v.d.a 0 v.d.c], .int .i64 0] w (fun e w' => e = .returned (.bool false) ∧ Below w.heap.size w w') := by
  refine (may_any v S1 0 w h S1_lens).mono ?_
  unfold Ret
  rw [anc5]
  rintro e w' ⟨rfl, h2⟩
  exact ⟨rfl, h2⟩

/-- the three records of the example, where they lie -/
theorem rd_steps {w : World} {g : Nat} (h : w.heap[g]? = some (.cells #[.int .i64 0, .int .i64 2, .int .i64 1, .int .i64 2] 50 (0, 0))) : RdP w ⟨some ⟨g, 0, none⟩, 2⟩ [(0, 2), (1, 2)] := by
  refine ⟨⟨rfl, by decide, fun _ => ⟨_, rfl, fun j p hj => ?_⟩⟩, Nat.le_refl _⟩
  match j, hj with
  | 0, hj =>
    simp at hj; subst hj
    exact ⟨[.int .i64 0, .int .i64 2], rfl, ⟨_, _, rfl, rfl, rfl⟩, fun i u hu => by
      match i, hu with
      | 0, hu => simp at hu; subst hu; exact (cell_at h 0)
      | 1, hu => simp at hu; subst hu; exact (cell_at h 1)⟩
  | 1, hj =>
    simp at hj; subst hj
    exact ⟨[.int .i64 1, .int .i64 2], rfl, ⟨_, _, rfl, rfl, rfl⟩, fun i u hu => by
      match i, hu with
      | 0, hu => simp at hu; subst hu; exact (cell_at h 2)
      | 1, hu => simp at hu; subst hu; exact (cell_at h 3)⟩
theorem rd_before {w : World} {g : Nat} (h : w.heap[g]? = some (.cells #[.int .i64 1, .int .i64 0] 54 (0, 0))) : RdP w ⟨some ⟨g, 0, none⟩, 1⟩ [(1, 0)] := by
  refine ⟨⟨rfl, by decide, fun _ => ⟨_, rfl, fun j p hj => ?_⟩⟩, Nat.le_refl _⟩
  match j, hj with
  | 0, hj =>
    simp at hj; subst hj
    exact ⟨[.int .i64 1, .int .i64 0], rfl, ⟨_, _, rfl, rfl, rfl⟩, fun i u hu => by
      match i, hu with
      | 0, hu => simp at hu; subst hu; exact (cell_at h 0)
      | 1, hu => simp at hu; subst hu; exact (cell_at h 1)⟩
theorem kPlan_make {w : World} {u : PV} {p : PlanP} (h : RdPlan w u p) : kPlan.K w p [u.f.v p.fr.length, u.t.v p.tt.length, u.s.v p.steps.length, u.b.v p.before.length] :=
  ⟨_, _, rfl, ⟨_, _, rfl, h.f.le, h.f.c⟩, _, _, rfl, ⟨_, _, rfl, h.t.le, h.t.c⟩, _, _, rfl, ⟨_, _, rfl, h.s.le, h.s.c⟩, ⟨_, _, rfl, h.b.le, h.b.c⟩⟩
theorem kRec_make {w : World} {u : PV} {r : RecP} (h : RdPlan w u r.plan) : kRec.K w r [.int .i64 r.kind, .int .i64 r.step, u.f.v r.plan.fr.length, u.t.v r.plan.tt.length, u.s.v r.plan.steps.length, u.b.v r.plan.before.length] :=
  ⟨[.int .i64 r.kind], _, rfl, rfl, [.int .i64 r.step], _, rfl, rfl, kPlan_make h⟩
def nilPV : PV := ⟨⟨none, 0⟩, ⟨none, 0⟩, ⟨none, 0⟩, ⟨none, 0⟩⟩
theorem nilPV_rd (w : World) : RdPlan w nilPV noPlan := (owPlan_nil w 0).rd
set_option maxRecDepth 20000 in
theorem rd_recs {w : World} {g : Nat} {u : PV} (hu : RdPlan w u P0) (h : w.heap[g]? = some (.cells #[.int .i64 1, .int .i64 0, .slice u.f.a 0 u.f.c, .slice u.t.a 0 u.t.c, .slice u.s.a 2 u.s.c, .slice u.b.a 1 u.b.c, .int .i64 2, .int .i64 1, .slice none 0 0, .slice none 0 0, .slice none 0 0, .slice none 0 0, .int .i64 4, .int .i64 1, .slice none 0 0, .slice none 0 0, .slice none 0 0, .slice none 0 0] 39 (0, 0))) : RdR w ⟨some ⟨g, 0, none⟩, 3⟩ [⟨1, 0, P0⟩, ⟨2, 1, noPlan⟩, ⟨4, 1, noPlan⟩] := by
  have hc : ∀ (k : Nat) (r : RecP) (u' : PV), RdPlan w u' r.plan → (∀ i v, (recCells u' r)[i]? = some v → w.cell? ⟨g, k * 6 + i, none⟩ = some v) → ∃ c : List Value, c.length = kRec.sz ∧ kRec.K w r c ∧ ∀ i v, c[i]? = some v → w.cell? ((⟨g, 0, none⟩ : Addr).add (k * kRec.sz + i)) = some v := by
    intro k r u' hu' hcell
    refine ⟨_, rfl, kRec_make hu', fun i v hi => ?_⟩
    have hz : kRec.sz = 6 := rfl
    have : (⟨g, 0, none⟩ : Addr).add (k * kRec.sz + i) = ⟨g, k * 6 + i, none⟩ := by simp [Addr.add, hz] <;> intros <;> omega
    rw [this]
    exact hcell i v (by simpa using hi)
  refine ⟨⟨rfl, by decide, fun _ => ⟨_, rfl, fun j p hj => ?_⟩⟩, Nat.le_refl _⟩
  match j, hj with
  | 0, hj =>
    simp at hj; subst hj
    refine hc 0 _ u hu (fun i v hi => ?_)
    have hlt : i < 6 := (Array.getElem?_eq_some_iff.1 hi).1
    rw [cell_at h]
    match i, hlt, hi with
    | 0, _, hi => exact hi
    | 1, _, hi => exact hi
    | 2, _, hi => exact hi
    | 3, _, hi => exact hi
    | 4, _, hi => exact hi
    | 5, _, hi => exact hi
  | 1, hj =>
    simp at hj; subst hj
    refine hc 1 _ nilPV (nilPV_rd w) (fun i v hi => ?_)
    have hlt : i < 6 := (Array.getElem?_eq_some_iff.1 hi).1
    rw [cell_at h]
    match i, hlt, hi with
    | 0, _, hi => exact hi
    | 1, _, hi => exact hi
    | 2, _, hi => exact hi
    | 3, _, hi => exact hi
    | 4, _, hi => exact hi
    | 5, _, hi => exact hi
  | 2, hj =>
    simp at hj; subst hj
    refine hc 2 _ nilPV (nilPV_rd w) (fun i v hi => ?_)
    have hlt : i < 6 := (Array.getElem?_eq_some_iff.1 hi).1
    rw [cell_at h]
    match i, hlt, hi with
    | 0, _, hi => exact hi
    | 1, _, hi => exact hi
    | 2, _, hi => exact hi
    | 3, _, hi => exact hi
    | 4, _, hi => exact hi
    | 5, _, hi => exact hi
end Go.Proofs.YtedalanhjhiehaaDoor
