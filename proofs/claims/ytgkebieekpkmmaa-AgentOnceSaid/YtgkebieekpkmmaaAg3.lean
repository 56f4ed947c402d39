import Derived.Test.YtgkebieekpkmmaaAg2
namespace Go.Proofs.Ytgkebieekpkmmaa
open Go.RowKit

def doSt (st : FSt) (u : Bool) : FSt := if u then undoSt st else match st.ent with
  | none => { st with ent := some false, ch := st.ch + 1 }
  | some _ => st
def doE (st : FSt) (u : Bool) : Int := if u then 0 else match st.ent with
  | some true => 63
  | _ => 0

theorem do_undo (c : Cfg) (ok : CfgOk c) (S : Nat → Prop) (F : Nat) (st : FSt) (hc0 : 0 ≤ st.ch) (hc1 : st.ch ≤ 999) (w : World) (hS : ∀ i, w.heap.size ≤ i → S i) (h : Fl w S F c st) :
    Calls Try.prog 14 #[.pointer (some ⟨F, 0, none⟩), .agg #[.int .i64 c.k, .int .i64 0, .complex .f64 0 0, .bool true]] w fun e w' => e = .returned (.int .i64 0) ∧ Fl w' S F c (undoSt st) ∧ KeepS S w w' := by
  have H := Lib.hid h
  clear h
  go_enter Try.func14, Try.ntmps14
  go_wp2_with (go_at_call 20; refine (undo_any c ok S F st hc0 hc1 _ (by intro i hi; exact hS i (by simp at hi; omega)) (by exact H.out.keeps ((Below.refl _ _).alloc (Nat.le_refl _) _))).mono ?_; rintro e w1 ⟨rfl, hf, hb⟩)
  go_ret
  exact ⟨rfl, hf, ((KeepS.refl S w).alloc _).trans hb⟩

theorem below_drewN' {B : Nat} (w : World) (n : Nat) : Below B w (w.drewN n) := ⟨rfl, rfl, rfl, Nat.le_refl _, fun _ _ => rfl⟩
theorem pw_frozen_alloc (w : World) (o : Obj) (a : Addr) {v : Value} (h : w.cell? a = some v) (hf : w.frozen? a = false) : (w.alloc o).frozen? a = false :=
  (((Below.refl w.heap.size w).alloc (Nat.le_refl _) o).frozen (World.block_lt_of_cell? w a h)).trans hf

theorem do_seen (c : Cfg) (S : Nat → Prop) (F : Nat) (st : FSt) (d : Bool) (hst : st.ent = some d) (w : World) (_hS : ∀ i, w.heap.size ≤ i → S i) (h : Fl w S F c st) :
    Calls Try.prog 14 #[.pointer (some ⟨F, 0, none⟩), .agg #[.int .i64 c.k, .int .i64 0, .complex .f64 c.s.1 c.s.2, .bool false]] w fun e w' => e = .returned (.int .i64 (if d then 63 else 0)) ∧ Fl w' S F c st ∧ KeepS S w w' := by
  have H := Lib.hid h
  obtain ⟨P, M, cap, clock, pc, lv, ents, h1, h2, h3, hF, hP, hpc, hM, hE, hl, hlS⟩ := h
  rw [hst] at hE
  obtain ⟨E, born, e0, e1, e2, e3, hBE, rfl, hEh, _⟩ := hE
  have hl0 := fun o n => lookup_ents Try.prog ((w.alloc o).drewN n) 41 3 49 M clock c.k _ (.pointer none) (by kernel_rfl) (by kernel_rfl) ((Below.heap_alloc w o M (Array.getElem?_eq_some_iff.1 hM).1).trans hM) (by kernel_rfl)
  rw [lk_one] at hl0
  simp only [Option.map_some, Option.getD_some] at hl0
  have c1 : w.cell? ⟨F, 1, none⟩ = some (.map (some M)) := by rw [cell_at hF]; rfl
  have c2 : w.cell? ⟨E, 4, none⟩ = some (.bool d) := by rw [cell_at hEh]; rfl
  have c1' := fun o => pw_cell_alloc w o _ c1
  have c2' := fun o => pw_cell_alloc w o _ c2
  clear hF hP hpc hM hl hst hEh
  cases d with
  | true =>
    go_enter Try.func14, Try.ntmps14
    go_wp2
    go_quiet (fail)
    go_wp2
    all_goals
      go_ret
      refine ⟨rfl, (H.out.keeps ((Below.refl _ _).alloc (Nat.le_refl _) _)).keeps (below_drewN' _ _), ?_⟩
      exact ((KeepS.refl S w).alloc _).drewN _
  | false =>
    go_enter Try.func14, Try.ntmps14
    go_wp2
    go_quiet (fail)
    go_wp2
    all_goals
      go_ret
      refine ⟨rfl, (H.out.keeps ((Below.refl _ _).alloc (Nat.le_refl _) _)).keeps (below_drewN' _ _), ?_⟩
      exact ((KeepS.refl S w).alloc _).drewN _

theorem do_new (c : Cfg) (ok : CfgOk c) (S : Nat → Prop) (F : Nat) (st : FSt) (hst : st.ent = none) (hc0 : 0 ≤ st.ch) (hc1 : st.ch ≤ 999) (w : World) (hS : ∀ i, w.heap.size ≤ i → S i) (h : Fl w S F c st) :
    Calls Try.prog 14 #[.pointer (some ⟨F, 0, none⟩), .agg #[.int .i64 c.k, .int .i64 0, .complex .f64 c.s.1 c.s.2, .bool false]] w fun e w' => e = .returned (.int .i64 0) ∧ Fl w' S F c { st with ent := some false, ch := st.ch + 1 } ∧ KeepS S w w' := by
  obtain ⟨P, M, cap, clock, pc, lv, ents, h1, h2, h3, hF, hP, hpc, hM, hE, hl, hlS⟩ := h
  rw [hst] at hE hpc
  obtain rfl : ents = [] := hE
  have hl0 := fun o n => lookup_ents Try.prog ((w.alloc o).drewN n) 41 3 49 M clock c.k _ (.pointer none) (by kernel_rfl) (by kernel_rfl) ((Below.heap_alloc w o M (Array.getElem?_eq_some_iff.1 hM).1).trans hM) (by kernel_rfl)
  simp only [lk, Option.map_none, Option.getD_none] at hl0
  have c0 : w.cell? ⟨F, 0, none⟩ = some (.slice (some ⟨P, 0, none⟩) 1 cap) := by rw [cell_at hF]; rfl
  have c1 : w.cell? ⟨F, 1, none⟩ = some (.map (some M)) := by rw [cell_at hF]; rfl
  have c3 : w.cell? ⟨F, 3, none⟩ = some (.int .i64 st.ch) := by rw [cell_at hF]; rfl
  have cz : w.cell? ⟨P, 0, none⟩ = some (.complex .f64 c.z0.1 c.z0.2) := by rw [cell_at hP]; exact hpc
  have f1 := frozen_at hF 3
  have f2 := frozen_at hP 0
  have c1' := fun o => pw_cell_alloc w o _ c1
  obtain ⟨a1, b1, ha1, hb1⟩ := ok.i1
  have A1 := Lib.hid ha1
  have B1 := Lib.hid hb1
  have HH := Lib.hid (And.intro hF (And.intro hP (And.intro hpc (And.intro hM (And.intro hl hst)))))
  clear hF hP hpc hM hl hst ha1 hb1
  go_enter Try.func14, Try.ntmps14
  go_wp2
  go_quiet (fail)
  go_wp2_with fail
  refine (move_ok F P cap c.z0.1 c.z0.2 c.s.1 c.s.2 c.z1.1 c.z1.2 _ _ st.ch ok.add ok.p1 A1 B1 _ (by exact pw_cell_alloc w _ _ c0) (by exact pw_cell_alloc w _ _ cz) (by exact pw_cell_alloc w _ _ c3) hc0 (by omega) (by exact pw_frozen_alloc w _ _ cz f2) (by exact pw_frozen_alloc w _ _ c3 f1)).mono ?_
  rintro e w1 ⟨rfl, hw1⟩
  obtain ⟨hF, hP, hpc, hM, hl, hst⟩ := HH.out
  have hFl := (Array.getElem?_eq_some_iff.1 hF).1
  have hPl := (Array.getElem?_eq_some_iff.1 hP).1
  have nFP : F ≠ P := ne_types hF hP (by decide)
  have nFM : F ≠ M := ne_obj hF hM (by intro _ _ _ h; cases h)
  have nPM : P ≠ M := ne_obj hP hM (by intro _ _ _ h; cases h)
  have hMl := (Array.getElem?_eq_some_iff.1 hM).1
  have keep : ∀ i, i < w.heap.size → i ≠ P → i ≠ F → w1.heap[i]? = w.heap[i]? := fun i hi a b => by
    rw [hw1]; exact (Below.heap_setCell _ _ _ _ b).trans ((Below.heap_setCell _ _ _ _ a).trans (Below.heap_alloc w _ i hi))
  have gN : w1.heap[w.heap.size]? = some (.cells #[.int .i64 c.k, .int .i64 0, .complex .f64 c.s.1 c.s.2, .bool false] 29 (0, 0)) := by
    rw [hw1]; exact (Below.heap_setCell _ _ _ _ (by show _ ≠ F; omega)).trans ((Below.heap_setCell _ _ _ _ (by show _ ≠ P; omega)).trans (heap_alloc_new w _))
  have gM := (keep M hMl nPM.symm nFM.symm).trans hM
  have gP : w1.heap[P]? = some (.cells (pc.setIfInBounds 0 (.complex .f64 c.z1.1 c.z1.2)) 26 (0, 0)) := by
    rw [hw1]; exact (Below.heap_setCell _ _ _ _ nFP.symm).trans (heap_set_same (w := (w.alloc _).drewN nq) ((Below.heap_alloc w _ P hPl).trans hP) 0 _)
  have gF : w1.heap[F]? = some (.cells #[.slice (some ⟨P, 0, none⟩) 1 cap, .map (some M), lv, .int .i64 (st.ch + 1)] 44 (0, 0)) := by
    rw [hw1]; exact heap_set_same (w := ((w.alloc _).drewN nq).setCell _ _) ((Below.heap_setCell _ _ _ _ nFP).trans ((Below.heap_alloc w _ F hFl).trans hF)) 3 _
  have gl : w1.ownsRow 0 29 4 lv st.late.length (lateCells c st.late) := own_moved hl fun k hk => by
    obtain ⟨cs, hcs⟩ := own_block hl k hk
    exact keep k (Array.getElem?_eq_some_iff.1 hcs).1 (ne_types hcs hP (by decide)) (ne_types hcs hF (by decide))
  have gsz : w1.heap.size = w.heap.size + 1 := by rw [hw1]; simp [World.setCell]
  have hbel : KeepS S w w1 := by
    rw [hw1]; exact ((((KeepS.refl S w).alloc _).drewN _).setCell (p := ⟨P, 0, none⟩) h2 _).setCell (p := ⟨F, 3, none⟩) h1 _
  generalize hN : w.heap.size = N at *
  have d1 : w1.cell? ⟨F, 1, none⟩ = some (.map (some M)) := by rw [cell_at gF]; rfl
  have n0 : w1.cell? ⟨N, 0, none⟩ = some (.int .i64 c.k) := by rw [cell_at gN]; rfl
  have n1 : w1.cell? ⟨N, 1, none⟩ = some (.int .i64 0) := by rw [cell_at gN]; rfl
  have n2 : w1.cell? ⟨N, 2, none⟩ = some (.complex .f64 c.s.1 c.s.2) := by rw [cell_at gN]; rfl
  have n3 : w1.cell? ⟨N, 3, none⟩ = some (.bool false) := by rw [cell_at gN]; rfl
  have d1' := fun o => pw_cell_alloc w1 o _ d1
  have n0' := fun o => pw_cell_alloc w1 o _ n0
  have G := Lib.hid (And.intro gF (And.intro gP (And.intro gM (And.intro gl (And.intro gsz (And.intro hN (And.intro hpc (And.intro hst (And.intro hbel (And.intro hS hlS))))))))))
  have hsz1 : M < w1.heap.size := (Array.getElem?_eq_some_iff.1 gM).1
  have hu := fun o => mapUpdate_push Try.prog ((w1.alloc o).drew) 41 3 49 M clock c.k [] (.pointer (some ⟨w1.heap.size, 0, none⟩)) (by kernel_rfl) (by kernel_rfl) ((Below.heap_alloc w1 o M hsz1).trans gM) rfl
  simp only [List.nil_append] at hu
  have Hn := Lib.hid hN
  have Hw := Lib.hid hw1
  clear hF hP hpc hM hl hst hFl hPl hMl keep gN gM gP gF gl gsz hbel hN hw1 hS hlS c0 c1 c3 cz f1 f2 c1' hl0 HH
  go_wp2
  go_region
  go_wp2
  all_goals
    go_ret
    obtain ⟨gF, gP, gM, gl, gsz, hN, hpc, hst, hbel, hS, hlS⟩ := G.out
    have hB1 : S w1.heap.size := hS _ (by omega)
    refine ⟨rfl, ?_, ?_⟩
    · refine Fl.push (w := w1) (st := { st with ch := st.ch + 1 }) (E := w1.heap.size) (born := clock) (c0 := .int .i64 c.k) (c1 := .int .i64 0) (c2 := .complex .f64 c.s.1 c.s.2) (c3 := .bool false) (clock' := clock + 1) h1 h2 h3 hB1 gF gP ?_ gM (by intro _ _ _ h; cases h) gl hlS ⟨rfl, rfl, rfl, by simp [putObj_size], fun k hk hne => ?_⟩ ?_ ?_ ?_ (d := false) ?_ ?_ ?_
      · cases hp : pc[0]? with
        | none => rw [hp] at hpc; cases hpc
        | some v =>
          have := (Array.getElem?_eq_some_iff.1 hp).1
          simp [this, zOf]
      · rw [putObj_heap_ne _ _ _ _ (by simpa using hne)]; exact Below.heap_alloc w1 _ k hk
      · exact putObj_heap _ _ _ _ ((Below.heap_alloc w1 _ M hsz1).trans gM)
      · rw [putObj_heap_ne _ _ _ _ (by omega)]; exact heap_alloc_new w1 _
      · intro _; exact ⟨rfl, rfl⟩
      · rfl
      · rfl
      · rfl
    · exact ((hbel.alloc _).drew).putObj h3 _

theorem do_any (c : Cfg) (ok : CfgOk c) (S : Nat → Prop) (F : Nat) (st : FSt) (u : Bool) (hc0 : 0 ≤ st.ch) (hc1 : st.ch ≤ 999) (w : World) (hS : ∀ i, w.heap.size ≤ i → S i) (h : Fl w S F c st) :
    Calls Try.prog 14 #[.pointer (some ⟨F, 0, none⟩), .agg (ordCells c u).toArray] w fun e w' => e = .returned (.int .i64 (doE st u)) ∧ Fl w' S F c (doSt st u) ∧ KeepS S w w' := by
  cases u with
  | true => exact do_undo c ok S F st hc0 hc1 w hS h
  | false =>
    cases hst : st.ent with
    | none =>
      have := do_new c ok S F st hst hc0 hc1 w hS h
      simpa [doE, doSt, hst, ordCells, oCells] using this
    | some d =>
      have := do_seen c S F st d hst w hS h
      cases d <;> simpa [doE, doSt, hst, ordCells, oCells] using this

end Go.Proofs.Ytgkebieekpkmmaa
