import Derived.Test.YtedalanhjhiehaaDoorChecked
import Derived.WalkKit
import Derived.WalkSpells
import Derived.WalkLawsBesides
import Derived.Deep.QuietTactic
import Derived.BigQuiet
import Derived.Lib.Hide
import Derived.Deep.RegionWith
import Derived.Deep.RegionLaw
import Derived.Laws.StructEq
import Derived.Test.YtedalanhjhiehaaDoorWWords
namespace Go.Proofs.YtedalanhjhiehaaDoor
open Go.RowKit
open YtedalanhjhiehaaDoorW.PrintWords (nums ReadsInt rd own_slice own_typed Kd)

theorem cell_at {w : World} {g t : Nat} {cs : Array Value} {fz : Nat × Nat} (h : w.heap[g]? = some (.cells cs t fz)) (j : Nat) : w.cell? ⟨g, j, none⟩ = cs[j]? := by simp [World.cell?, h]
theorem frozen_at {w : World} {g t : Nat} {cs : Array Value} (h : w.heap[g]? = some (.cells cs t (0, 0))) (j : Nat) : w.frozen? ⟨g, j, none⟩ = false := by simp [World.frozen?, h]
theorem lt_of {w : World} {i : Nat} {o : Obj} (h : w.heap[i]? = some o) : i < w.heap.size := (Array.getElem?_eq_some_iff.1 h).1
theorem heap_set_same {w : World} {g t : Nat} {cs : Array Value} {fz : Nat × Nat} (h : w.heap[g]? = some (.cells cs t fz)) (j : Nat) (v : Value) :
    (w.setCell ⟨g, j, none⟩ v).heap[g]? = some (.cells (cs.setIfInBounds j v) t fz) := by
  simp [World.setCell, Array.getElem?_modify, h]
theorem bcell {W w1 : World} (hb : Below W.heap.size W w1) : (∀ b o, b < W.heap.size → w1.cell? ⟨b, o, none⟩ = W.cell? ⟨b, o, none⟩) ∧ (∀ b o, b < W.heap.size → w1.frozen? ⟨b, o, none⟩ = W.frozen? ⟨b, o, none⟩) :=
  ⟨fun b o h => hb.cell (p := ⟨b, o, none⟩) h, fun b o h => hb.frozen (p := ⟨b, o, none⟩) h⟩
theorem ret_bool {a b : Bool} (h : a = b) : Ending.returned (.bool a) = .returned (.bool b) := by rw [h]
theorem ret_int {k : IntKind} {a b : Int} (h : a = b) : Ending.returned (.int k a) = .returned (.int k b) := by rw [h]

/-! ### the values -/
abbrev kI : Kd Int := Kd.int .i64
/-- two whole numbers in line: a step, an edge -/
abbrev kP : Kd (Int × Int) := Kd.pair (Kd.int .i64) (Kd.int .i64)
structure PlanP where
  fr : List Int
  tt : List Int
  steps : List (Int × Int)
  before : List (Int × Int)
structure StateP where
  num : Int
  ph : Int
  plan : PlanP
  op : List Int
  dn : List Int
structure RecP where
  kind : Int
  step : Int
  plan : PlanP
def kPlan : Kd PlanP := Kd.iso (Kd.pair (Kd.slice 3 kI) (Kd.pair (Kd.slice 3 kI) (Kd.pair (Kd.slice 50 kP) (Kd.slice 54 kP)))) fun p => (p.fr, p.tt, p.steps, p.before)
/-- a plan of the document's: the steps are of another named type -/
def kPlan' : Kd PlanP := Kd.iso (Kd.pair (Kd.slice 3 kI) (Kd.pair (Kd.slice 3 kI) (Kd.pair (Kd.slice 55 kP) (Kd.slice 54 kP)))) fun p => (p.fr, p.tt, p.steps, p.before)
def kState : Kd StateP := Kd.iso (Kd.pair kI (Kd.pair kI (Kd.pair kPlan (Kd.pair (Kd.slice 3 kI) (Kd.slice 3 kI))))) fun s => (s.num, s.ph, s.plan, s.op, s.dn)
def kRec : Kd RecP := Kd.iso (Kd.pair kI (Kd.pair kI kPlan)) fun r => (r.kind, r.step, r.plan)
def noPlan : PlanP := ⟨[], [], [], []⟩
def noState : StateP := ⟨0, 0, noPlan, [], []⟩

/-- a slice's value: where it lies and how much it may hold -/
structure SL where
  a : Option Addr
  c : Nat
@[reducible] def SL.v (s : SL) (n : Nat) : Value := .slice s.a n s.c
/-- it reads as these -/
structure RdI (w : World) (s : SL) (xs : List Int) : Prop where
  c : Kd.C kI w s.a xs.length xs
  le : xs.length ≤ s.c
structure RdP (w : World) (s : SL) (xs : List (Int × Int)) : Prop where
  c : Kd.C kP w s.a xs.length xs
  le : xs.length ≤ s.c
theorem RdI.below {w w' : World} {s : SL} {xs : List Int} (h : RdI w s xs) (hb : Below w.heap.size w w') : RdI w' s xs := ⟨Kd.C_below h.c hb, h.le⟩
theorem RdP.below {w w' : World} {s : SL} {xs : List (Int × Int)} (h : RdP w s xs) (hb : Below w.heap.size w w') : RdP w' s xs := ⟨Kd.C_below h.c hb, h.le⟩
theorem RdI.len {w : World} {s : SL} {xs : List Int} (h : RdI w s xs) : xs.length ≤ 9223372036854775807 := h.c.2.1
theorem RdP.len {w : World} {s : SL} {xs : List (Int × Int)} (h : RdP w s xs) : xs.length ≤ 9223372036854775807 := h.c.2.1
theorem RdI.at_ {w : World} {s : SL} {xs : List Int} (h : RdI w s xs) (k : Nat) (hk : k < xs.length) : ∃ ad, s.a = some ad ∧ w.cell? (ad.add k) = some (.int .i64 xs[k]) := by
  obtain ⟨ad, e, hc⟩ := h.c.2.2 (by omega)
  obtain ⟨c, h1, h2, h3⟩ := hc k _ (List.getElem?_eq_getElem hk)
  refine ⟨ad, e, ?_⟩
  have := h3 0 (.int .i64 xs[k]) (by rw [h2]; rfl)
  simpa [kI, Kd.int, Kd.scalar] using this
theorem RdP.at_ {w : World} {s : SL} {xs : List (Int × Int)} (h : RdP w s xs) (k : Nat) (hk : k < xs.length) : ∃ ad, s.a = some ad ∧ w.cell? (ad.add (k * 2)) = some (.int .i64 xs[k].1) ∧ w.cell? ⟨(ad.add (k * 2)).block, (ad.add (k * 2)).off + 1, none⟩ = some (.int .i64 xs[k].2) := by
  obtain ⟨ad, e, hc⟩ := h.c.2.2 (by omega)
  obtain ⟨c, h1, ⟨c0, c1, rfl, h2, h2'⟩, h3⟩ := hc k _ (List.getElem?_eq_getElem hk)
  have e0 : c0 = [.int .i64 xs[k].1] := h2
  have e1 : c1 = [.int .i64 xs[k].2] := h2'
  subst e0; subst e1
  refine ⟨ad, e, ?_, ?_⟩
  · have := h3 0 (.int .i64 xs[k].1) rfl
    simpa [kP, Kd.pair, Kd.int, Kd.scalar] using this
  · have := h3 1 (.int .i64 xs[k].2) rfl
    rw [YtedalanhjhiehaaDoorW.PrintWords.add_field _ _ 1 (by omega)] at this
    simpa [kP, Kd.pair, Kd.int, Kd.scalar] using this
theorem rdI_nil (w : World) : RdI w ⟨none, 0⟩ [] := ⟨Kd.C_nil _ _, Nat.le_refl _⟩
theorem rdP_nil (w : World) : RdP w ⟨none, 0⟩ [] := ⟨Kd.C_nil _ _, Nat.le_refl _⟩

/-- a plan's four slices -/
structure PV where
  f : SL
  t : SL
  s : SL
  b : SL
@[reducible] def planV (v : PV) (p : PlanP) : Value := .agg #[v.f.v p.fr.length, v.t.v p.tt.length, v.s.v p.steps.length, v.b.v p.before.length]
structure RdPlan (w : World) (v : PV) (p : PlanP) : Prop where
  f : RdI w v.f p.fr
  t : RdI w v.t p.tt
  s : RdP w v.s p.steps
  b : RdP w v.b p.before
theorem RdPlan.below {w w' : World} {v : PV} {p : PlanP} (h : RdPlan w v p) (hb : Below w.heap.size w w') : RdPlan w' v p := ⟨h.f.below hb, h.t.below hb, h.s.below hb, h.b.below hb⟩
structure SV where
  p : PV
  o : SL
  d : SL
@[reducible] def stV (v : SV) (s : StateP) : Value := .agg #[.int .i64 s.num, .int .i64 s.ph, v.p.f.v s.plan.fr.length, v.p.t.v s.plan.tt.length, v.p.s.v s.plan.steps.length, v.p.b.v s.plan.before.length, v.o.v s.op.length, v.d.v s.dn.length]
structure RdSt (w : World) (v : SV) (s : StateP) : Prop where
  p : RdPlan w v.p s.plan
  o : RdI w v.o s.op
  d : RdI w v.d s.dn
theorem RdSt.below {w w' : World} {v : SV} {s : StateP} (h : RdSt w v s) (hb : Below w.heap.size w w') : RdSt w' v s := ⟨h.p.below hb, h.o.below hb, h.d.below hb⟩
@[reducible] def recV (v : PV) (r : RecP) : Value := .agg #[.int .i64 r.kind, .int .i64 r.step, v.f.v r.plan.fr.length, v.t.v r.plan.tt.length, v.s.v r.plan.steps.length, v.b.v r.plan.before.length]

/-! ### what a call makes of its own -/
structure OwI (w : World) (B : Nat) (s : SL) (xs : List Int) : Prop where
  r : Kd.R kI 3 w B (fun _ => True) (s.v xs.length) xs
structure OwS (e : Nat) (w : World) (B : Nat) (s : SL) (xs : List (Int × Int)) : Prop where
  r : Kd.R kP e w B (fun _ => True) (s.v xs.length) xs
structure OwPlan (w : World) (B : Nat) (v : PV) (p : PlanP) : Prop where
  f : OwI w B v.f p.fr
  t : OwI w B v.t p.tt
  s : OwS 50 w B v.s p.steps
  b : OwS 54 w B v.b p.before
structure OwSt (w : World) (B : Nat) (v : SV) (s : StateP) : Prop where
  p : OwPlan w B v.p s.plan
  o : OwI w B v.o s.op
  d : OwI w B v.d s.dn
theorem OwI.below {w w' : World} {B : Nat} {s : SL} {xs : List Int} (h : OwI w B s xs) (hb : Below w.heap.size w w') : OwI w' B s xs := ⟨Kd.R_below h.r hb⟩
theorem OwS.below {e : Nat} {w w' : World} {B : Nat} {s : SL} {xs : List (Int × Int)} (h : OwS e w B s xs) (hb : Below w.heap.size w w') : OwS e w' B s xs := ⟨Kd.R_below h.r hb⟩
theorem OwPlan.below {w w' : World} {B : Nat} {v : PV} {p : PlanP} (h : OwPlan w B v p) (hb : Below w.heap.size w w') : OwPlan w' B v p := ⟨h.f.below hb, h.t.below hb, h.s.below hb, h.b.below hb⟩
theorem OwSt.below {w w' : World} {B : Nat} {v : SV} {s : StateP} (h : OwSt w B v s) (hb : Below w.heap.size w w') : OwSt w' B v s := ⟨h.p.below hb, h.o.below hb, h.d.below hb⟩
theorem OwI.lower {w : World} {B B' : Nat} {s : SL} {xs : List Int} (h : OwI w B s xs) (hb : B' ≤ B) : OwI w B' s xs := ⟨Kd.R_lower h.r hb⟩
theorem OwS.lower {e : Nat} {w : World} {B B' : Nat} {s : SL} {xs : List (Int × Int)} (h : OwS e w B s xs) (hb : B' ≤ B) : OwS e w B' s xs := ⟨Kd.R_lower h.r hb⟩
theorem OwPlan.lower {w : World} {B B' : Nat} {v : PV} {p : PlanP} (h : OwPlan w B v p) (hb : B' ≤ B) : OwPlan w B' v p := ⟨h.f.lower hb, h.t.lower hb, h.s.lower hb, h.b.lower hb⟩
theorem OwSt.lower {w : World} {B B' : Nat} {v : SV} {s : StateP} (h : OwSt w B v s) (hb : B' ≤ B) : OwSt w B' v s := ⟨h.p.lower hb, h.o.lower hb, h.d.lower hb⟩
theorem OwI.rd {w : World} {B : Nat} {s : SL} {xs : List Int} (h : OwI w B s xs) : RdI w s xs := by
  obtain ⟨A, c, he, hl, hr⟩ := Kd.R_reads h.r
  obtain ⟨a, c'⟩ := s
  injection he with h1 _ h2
  subst h1; subst h2
  exact ⟨hr, hl⟩
theorem OwS.rd {e : Nat} {w : World} {B : Nat} {s : SL} {xs : List (Int × Int)} (h : OwS e w B s xs) : RdP w s xs := by
  obtain ⟨A, c, he, hl, hr⟩ := Kd.R_reads h.r
  obtain ⟨a, c'⟩ := s
  injection he with h1 _ h2
  subst h1; subst h2
  exact ⟨hr, hl⟩
theorem OwPlan.rd {w : World} {B : Nat} {v : PV} {p : PlanP} (h : OwPlan w B v p) : RdPlan w v p := ⟨h.f.rd, h.t.rd, h.s.rd, h.b.rd⟩
theorem OwSt.rd {w : World} {B : Nat} {v : SV} {s : StateP} (h : OwSt w B v s) : RdSt w v s := ⟨h.p.rd, h.o.rd, h.d.rd⟩
theorem owI_nil (w : World) (B : Nat) : OwI w B ⟨none, 0⟩ [] := ⟨Kd.R_nil _ _ _ _ _⟩
theorem owS_nil (e : Nat) (w : World) (B : Nat) : OwS e w B ⟨none, 0⟩ [] := ⟨Kd.R_nil _ _ _ _ _⟩
theorem owPlan_nil (w : World) (B : Nat) : OwPlan w B ⟨⟨none, 0⟩, ⟨none, 0⟩, ⟨none, 0⟩, ⟨none, 0⟩⟩ noPlan := ⟨owI_nil _ _, owI_nil _ _, owS_nil _ _ _, owS_nil _ _ _⟩

/-- a call that answers a value, and makes memory alone -/
def Ret (w : World) (v : Value) (e : Ending) (w' : World) : Prop := e = .returned v ∧ Below w.heap.size w w'
end Go.Proofs.YtedalanhjhiehaaDoor
