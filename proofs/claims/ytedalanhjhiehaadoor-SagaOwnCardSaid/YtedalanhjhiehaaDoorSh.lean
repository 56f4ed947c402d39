import Derived.Test.YtedalanhjhiehaaDoorSg
import Derived.Test.YtedalanhjhiehaaDoorRf
set_option linter.unusedVariables false
namespace Go.Proofs.YtedalanhjhiehaaDoor
open Go.RowKit
open YtedalanhjhiehaaDoorW.PrintWords (nums ReadsInt rd own_slice own_typed Kd ReadsRow Reps OwnRow)

/-- an append to what holds nothing and can hold nothing -/
theorem append_empty {α : Type} (d : Kd α) (hflat : ∀ (w w' : World) (base : Nat) (ok : Nat → Prop) (x : α) (cs : List Value), d.K w x cs → d.M w' base ok x cs) (t ty e : TypeId) (z : Value) (bytes : Nat)
    (ht : Tryd.prog.underlying t = some (.slice e)) (hinfo : (Tryd.prog.info? e).map (fun i => (i.zero, i.size, i.bytes)) = some (some z, d.sz, bytes)) (hz : z.cells.size = d.sz) (hs0 : 0 < d.sz) (hb0 : 0 < bytes)
    (W : World) (b0 : Addr) (A : Option Addr) (m c : Nat) (ys : List α) (HR : d.C W A m ys) (hl : m * bytes ≤ 140737488355328) :
    ∃ (s' : SL) (w1 : World), (Builtin.append_ #[t, t] ty #[.slice (some b0) 0 0, .slice A m c]).run Tryd.prog W = .ok (.slice s'.a m s'.c) w1 ∧ d.C w1 s'.a m ys ∧ m ≤ s'.c ∧ Below W.heap.size W w1 ∧ (0 < m → d.R e w1 W.heap.size (fun _ => True) (.slice s'.a m s'.c) ys) := by
  obtain ⟨i0, hi, hzz⟩ := Option.map_eq_some_iff.1 hinfo
  simp only [Prod.mk.injEq] at hzz
  obtain ⟨hz0, hz1, hz2⟩ := hzz
  have hm : ys.length = m := HR.1
  have hlen : m ≤ 140737488355328 := Nat.le_trans (Nat.le_mul_of_pos_right _ hb0) hl
  rcases Nat.eq_zero_or_pos m with h0 | h0
  · subst h0
    obtain rfl : ys = [] := List.eq_nil_of_length_eq_zero hm
    refine ⟨⟨some b0, 0⟩, W, ?_, ⟨rfl, by decide, fun h => absurd h (by decide)⟩, Nat.le_refl _, Below.refl _ _, fun h => absurd h (by decide)⟩
    rcases A with _ | ad
    · simp [Builtin.append_, run_underlying ht, sizeOf, typeInfo, hi, Builtin.lenOf, Builtin.firstCells, storeCells]
    · simp [Builtin.append_, run_underlying ht, sizeOf, typeInfo, hi, Builtin.lenOf, Builtin.firstCells, loadCells, loadCellsFrom, storeCells]
  · obtain ⟨ad, rfl, _⟩ := HR.2.2 h0
    obtain ⟨news, hnr, hnc⟩ := ReadsRow.inner_ HR
    have hr := run_append_grow (P := Tryd.prog) W t ty e i0 z ht hi hz0 b0 0 0 [] (by simp) (by intro j v hj; simp at hj) ad m c news (by rw [hnr.1, hm, hz1]) hnc (by omega) (by omega) (growslice_fits (by omega) (by rw [hz2, Nat.zero_add]; exact hl))
    have hge := grownCap_ge W m 0 e
    have hcm : grownCap W m 0 e ≤ maxLen := grownCap_le_maxLen W m 0 e (by unfold maxLen; omega)
    simp only [Nat.zero_add] at hr
    generalize grownCap W m 0 e = cap at hr hge hcm
    have hR : d.R e (W.drew.alloc (.cells (([] : List Value).toArray ++ news.toArray ++ Builtin.zeroCells z.cells (cap - m)) e)) W.heap.size (fun _ => True) (.slice (some ⟨W.heap.size, 0, none⟩) m cap) ys := by
      refine ⟨fun _ _ => trivial, news, ⟨by rw [hnr.1], .inr ⟨W.heap.size, cap, _, by rw [hm], Nat.le_refl _, heap_alloc_new W.drew _, by omega, hcm, ?_, ?_⟩⟩, hnr.imp_ (fun p c hp => hflat _ _ _ _ _ _ hp)⟩
      · simp only [Array.size_append, List.size_toArray, List.length_nil, size_zeroCells, hz, hnr.1, hm, Nat.zero_add, ← Nat.add_mul]
        congr 1
        omega
      · simp only [Array.toList_append, List.nil_append]
        rw [← hnr.1]
        exact List.take_left
    have hb : Below W.heap.size W (W.drew.alloc (.cells (([] : List Value).toArray ++ news.toArray ++ Builtin.zeroCells z.cells (cap - m)) e)) := by
      have h1 : Below W.heap.size W W.drew := ⟨rfl, rfl, rfl, Nat.le_refl _, fun _ _ => rfl⟩
      exact h1.alloc (Nat.le_refl _) _
    obtain ⟨A', c', he, hl', hC⟩ := Kd.R_reads hR
    injection he with h1 h2 h3
    subst h1; subst h3
    exact ⟨⟨some ⟨W.heap.size, 0, none⟩, cap⟩, _, hr, by rw [hm] at hC; exact hC, hge, hb, fun _ => hR⟩

/-- cells that one may write: a row in blocks from lo on, short of hi -/
def Wr (w : World) (lo hi : Nat) (s : SL) (m : Nat) : Prop := 0 < m → ∃ g cs t, s.a = some ⟨g, 0, none⟩ ∧ lo ≤ g ∧ g < hi ∧ w.heap[g]? = some (.cells cs t (0, 0)) ∧ m ≤ cs.size
theorem wr_of_own {w : World} {B e size n : Nat} {A : Option Addr} {c : Nat} {inner : List Value} (h : w.ownsRow B e size (.slice A n c) n inner) : Wr w B w.heap.size ⟨A, c⟩ (n * size) := by
  intro h0
  rcases h.2 with ⟨hv, hn⟩ | ⟨g, cap, cur, hv, hb, hh, hnc, _, hsz, _⟩
  · subst hn; simp at h0
  · injection hv with h1 _ h3
    exact ⟨g, cur, e, h1, hb, lt_of hh, hh, by rw [hsz]; exact Nat.mul_le_mul_right _ hnc⟩
theorem OwI.wr {w : World} {B : Nat} {s : SL} {xs : List Int} (h : OwI w B s xs) : Wr w B w.heap.size s xs.length := by
  obtain ⟨_, inner, ho, _⟩ := h.r
  have := wr_of_own ho
  simpa [kI, Kd.int, Kd.scalar] using this
theorem OwS.wr {e : Nat} {w : World} {B : Nat} {s : SL} {xs : List (Int × Int)} (h : OwS e w B s xs) : Wr w B w.heap.size s (xs.length * 2) := by
  obtain ⟨_, inner, ho, _⟩ := h.r
  exact wr_of_own ho
theorem Wr.below {w w' : World} {lo hi : Nat} {s : SL} {m : Nat} (h : Wr w lo hi s m) (hb : Below w.heap.size w w') : Wr w' lo hi s m := by
  intro h0
  obtain ⟨g, cs, t, h1, h2, h5, h3, h4⟩ := h h0
  exact ⟨g, cs, t, h1, h2, h5, (hb.block _ (lt_of h3)).trans h3, h4⟩
theorem Wr.wide {w : World} {lo lo' hi hi' : Nat} {s : SL} {m : Nat} (h : Wr w lo hi s m) (hl : lo' ≤ lo) (hh : hi ≤ hi') : Wr w lo' hi' s m := by
  intro h0
  obtain ⟨g, cs, t, h1, h2, h5, h3, h4⟩ := h h0
  exact ⟨g, cs, t, h1, Nat.le_trans hl h2, Nat.lt_of_lt_of_le h5 hh, h3, h4⟩
theorem Wr.set {w : World} {lo hi : Nat} {s : SL} {m : Nat} (h : Wr w lo hi s m) (b o : Nat) (v : Value) : Wr (w.setCell ⟨b, o, none⟩ v) lo hi s m := by
  intro h0
  obtain ⟨g, cs, t, h1, h2, h5, h3, h4⟩ := h h0
  by_cases e : b = g
  · subst e
    exact ⟨b, cs.setIfInBounds o v, t, h1, h2, h5, heap_set_same h3 o v, by simpa using h4⟩
  · exact ⟨g, cs, t, h1, h2, h5, (Below.heap_setCell w ⟨b, o, none⟩ v g (fun h => e h.symm)).trans h3, h4⟩
theorem Wr.at_ {w : World} {lo hi : Nat} {s : SL} {m : Nat} (h : Wr w lo hi s m) {j : Nat} (hj : j < m) : ∃ g u, s.a = some ⟨g, 0, none⟩ ∧ lo ≤ g ∧ g < hi ∧ w.cell? ⟨g, j, none⟩ = some u ∧ w.frozen? ⟨g, j, none⟩ = false := by
  obtain ⟨g, cs, t, h1, h2, h5, h3, h4⟩ := h (by omega)
  refine ⟨g, cs[j]'(by omega), h1, h2, h5, ?_, frozen_at h3 _⟩
  rw [cell_at h3, Array.getElem?_eq_getElem (by omega)]

/-- what an append onto nothing leaves: it reads, and is one's own if it holds anything -/
structure EwI (w : World) (B : Nat) (s : SL) (xs : List Int) : Prop where
  rd : RdI w s xs
  ow : 0 < xs.length → OwI w B s xs
structure EwS (e : Nat) (w : World) (B : Nat) (s : SL) (xs : List (Int × Int)) : Prop where
  rd : RdP w s xs
  ow : 0 < xs.length → OwS e w B s xs
theorem EwI.below {w w' : World} {B : Nat} {s : SL} {xs : List Int} (h : EwI w B s xs) (hb : Below w.heap.size w w') : EwI w' B s xs := ⟨h.rd.below hb, fun h0 => (h.ow h0).below hb⟩
theorem EwS.below {e : Nat} {w w' : World} {B : Nat} {s : SL} {xs : List (Int × Int)} (h : EwS e w B s xs) (hb : Below w.heap.size w w') : EwS e w' B s xs := ⟨h.rd.below hb, fun h0 => (h.ow h0).below hb⟩
theorem EwI.lower {w : World} {B B' : Nat} {s : SL} {xs : List Int} (h : EwI w B s xs) (hb : B' ≤ B) : EwI w B' s xs := ⟨h.rd, fun h0 => (h.ow h0).lower hb⟩
theorem EwS.lower {e : Nat} {w : World} {B B' : Nat} {s : SL} {xs : List (Int × Int)} (h : EwS e w B s xs) (hb : B' ≤ B) : EwS e w B' s xs := ⟨h.rd, fun h0 => (h.ow h0).lower hb⟩
theorem EwI.far {w : World} {B : Nat} {s : SL} {xs : List Int} (h : EwI w B s xs) {p : Addr} (hp : p.block < B) (u : Value) : EwI (w.setCell p u) B s xs :=
  ⟨⟨⟨h.rd.c.1, h.rd.c.2.1, fun h0 => ((h.ow h0).far hp u).rd.c.2.2 h0⟩, h.rd.le⟩, fun h0 => (h.ow h0).far hp u⟩
theorem EwS.far {e : Nat} {w : World} {B : Nat} {s : SL} {xs : List (Int × Int)} (h : EwS e w B s xs) {p : Addr} (hp : p.block < B) (u : Value) : EwS e (w.setCell p u) B s xs :=
  ⟨⟨⟨h.rd.c.1, h.rd.c.2.1, fun h0 => ((h.ow h0).far hp u).rd.c.2.2 h0⟩, h.rd.le⟩, fun h0 => (h.ow h0).far hp u⟩
theorem EwS.wr {e : Nat} {w : World} {B : Nat} {s : SL} {xs : List (Int × Int)} (h : EwS e w B s xs) : Wr w B w.heap.size s (xs.length * 2) := fun h0 => (h.ow (by omega)).wr h0

theorem appendE_I {o : Oper} {a : Act} {K : Act → World → Prop} {Q : Exit → Act → World → Prop} {W : World} {s x : Operand} {b0 : Addr} {sx : SL} {ys : List Int}
    (ho : o.op = .call { callee := .builtin .append, args := #[s, x], argTypes := #[22, 22] }) (hs : a.eval s = .slice (some b0) 0 0) (hx : a.eval x = .slice sx.a ys.length sx.c)
    (HR : RdI W sx ys) (hl : ys.length ≤ 1000) (h : ∀ s' w1, EwI w1 W.heap.size s' ys → Below W.heap.size W w1 → K (a.put o.dst (.slice s'.a ys.length s'.c)) w1) : Oper.wp Tryd.prog o a W K Q := by
  obtain ⟨s', w1, hr, hC, hle, hb, hown⟩ := append_empty kI (fun _ _ _ _ _ _ h => kI_flat h) 22 o.type 3 (.int .i64 0) 8 Tryd.underlying22 infoI rfl (by decide) (by decide) W b0 sx.a ys.length sx.c ys HR.c (by omega)
  unfold Oper.wp execOp
  simp only [ho, resolve, invoke, builtin, Sem.run_bind, Sem.run_pure, Result.andThen_ok, List.map_toArray, List.map_cons, List.map_nil, hs, hx, hr]
  exact h s' w1 ⟨⟨hC, hle⟩, fun h0 => ⟨hown h0⟩⟩ hb
theorem appendE_P {o : Oper} {a : Act} {K : Act → World → Prop} {Q : Exit → Act → World → Prop} {W : World} {s x : Operand} {b0 : Addr} {sx : SL} {ys : List (Int × Int)} {t e : TypeId} (ht : Tryd.prog.underlying t = some (.slice e)) (hinfo : (Tryd.prog.info? e).map (fun i => (i.zero, i.size, i.bytes)) = some (some (.agg #[.int .i64 0, .int .i64 0]), 2, 16))
    (ho : o.op = .call { callee := .builtin .append, args := #[s, x], argTypes := #[t, t] }) (hs : a.eval s = .slice (some b0) 0 0) (hx : a.eval x = .slice sx.a ys.length sx.c)
    (HR : RdP W sx ys) (hl : ys.length ≤ 1000) (h : ∀ s' w1, EwS e w1 W.heap.size s' ys → Below W.heap.size W w1 → K (a.put o.dst (.slice s'.a ys.length s'.c)) w1) : Oper.wp Tryd.prog o a W K Q := by
  obtain ⟨s', w1, hr, hC, hle, hb, hown⟩ := append_empty kP (fun _ _ _ _ _ _ h => kP_flat h) t o.type e (.agg #[.int .i64 0, .int .i64 0]) 16 ht hinfo rfl (by decide) (by decide) W b0 sx.a ys.length sx.c ys HR.c (by omega)
  unfold Oper.wp execOp
  simp only [ho, resolve, invoke, builtin, Sem.run_bind, Sem.run_pure, Result.andThen_ok, List.map_toArray, List.map_cons, List.map_nil, hs, hx, hr]
  exact h s' w1 ⟨⟨hC, hle⟩, fun h0 => ⟨hown h0⟩⟩ hb
end Go.Proofs.YtedalanhjhiehaaDoor
