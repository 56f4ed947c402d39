import Derived.Test.YtgkebieekpkmmaaAg1
import Derived.Test.YtgkebieekpkmmaaCl
import Derived.Deep.RegionWith
import Derived.StillTailTactics
namespace Go.Proofs.Ytgkebieekpkmmaa
open Go.RowKit

def undoSt (st : FSt) : FSt := match st.ent with
  | none => { st with ent := some true }
  | some true => st
  | some false => { st with ent := some true, ch := st.ch + 1 }

theorem lk_one (k : Int) (v : Value) (n : Nat) : lk k [(k, v, n)] 0 = some (0, v) := by simp [lk]

theorem own_ne_obj {w : World} {base : Nat} {e : TypeId} {size n : Nat} {v : Value} {xs : List Value} (h : w.ownsRow base e size v n xs) {M : Nat} {o : Obj} (hM : w.heap[M]? = some o) (ho : ∀ cs, o ≠ .cells cs e (0, 0)) : v.ownBlock = none ∨ v.ownBlock ≠ some M := by
  rcases h.2 with ⟨rfl, _⟩ | ⟨g, cap, cur, rfl, _, hg, _⟩
  · exact .inl rfl
  · refine .inr fun he => ?_
    simp [Value.ownBlock] at he
    subst he
    rw [hg] at hM
    injection hM with hM
    exact ho _ hM.symm

/-- the heap facts but for the map and the entry -/
theorem Fl.push {w w' : World} {S : Nat → Prop} {F P M cap clock' E born : Nat} {pc : Array Value} {lv : Value} {c : Cfg} {st st' : FSt} {c0 c1 c2 c3 : Value} {d : Bool} {o : Obj}
    (h1 : S F) (h2 : S P) (h3 : S M) (hE : S E)
    (hF : w.heap[F]? = some (.cells #[.slice (some ⟨P, 0, none⟩) 1 cap, .map (some M), lv, .int .i64 st.ch] 44 (0, 0)))
    (hP : w.heap[P]? = some (.cells pc 26 (0, 0))) (hpc : pc[0]? = some (.complex .f64 (zOf c st'.ent).1 (zOf c st'.ent).2))
    (hM : w.heap[M]? = some o) (ho : ∀ cs t f, o ≠ .cells cs t f)
    (hl : w.ownsRow 0 29 4 lv st.late.length (lateCells c st.late)) (hlS : ∀ k, lv.ownBlock = some k → S k)
    (hg : w.grownBy w' (some M)) (hM' : w'.heap[M]? = some (.map ([(c.k, .pointer (some ⟨E, 0, none⟩), born)].map mkEnt).toArray clock'))
    (hE' : w'.heap[E]? = some (.cells #[c0, c1, c2, c3, .bool d] 51 (0, 0))) (hd : d = false → c1 = .int .i64 0 ∧ c2 = .complex .f64 c.s.1 c.s.2)
    (hs : st'.ent = some d) (hs1 : st'.late = st.late) (hs2 : st'.ch = st.ch) : Fl w' S F c st' := by
  have hFM : F ≠ M := by rintro rfl; rw [hF] at hM; injection hM with hM; exact ho _ _ _ hM.symm
  have hPM : P ≠ M := by rintro rfl; rw [hP] at hM; injection hM with hM; exact ho _ _ _ hM.symm
  refine ⟨P, M, cap, clock', pc, lv, _, h1, h2, h3, ?_, ?_, hpc, hM', ?_, ?_⟩
  · rw [hs2]; exact (hg.block F (Array.getElem?_eq_some_iff.1 hF).1 (by simpa using hFM)).trans hF
  · exact (hg.block P (Array.getElem?_eq_some_iff.1 hP).1 (by simpa using hPM)).trans hP
  · rw [hs]; exact ⟨E, born, c0, c1, c2, c3, hE, rfl, hE', hd⟩
  · rw [hs1]; exact ⟨hl.kept hg (own_ne_obj hl hM (fun cs => ho _ _ _)), hlS⟩

theorem undo_none (c : Cfg) (S : Nat → Prop) (F : Nat) (st : FSt) (hst : st.ent = none) (w : World) (hS : ∀ i, w.heap.size ≤ i → S i) (h : Fl w S F c st) :
    Calls Try.prog 20 #[.pointer (some ⟨F, 0, none⟩), .int .i64 c.k] w fun e w' => e = .returned (.int .i64 0) ∧ Fl w' S F c (undoSt st) ∧ KeepS S w w' := by
  obtain ⟨P, M, cap, clock, pc, lv, ents, h1, h2, h3, hF, hP, hpc, hM, hE, hl, hlS⟩ := h
  rw [hst] at hE
  obtain rfl : ents = [] := hE
  have hl0 := lookup_ents Try.prog w 41 3 49 M clock c.k [] (.pointer none) (by kernel_rfl) (by kernel_rfl) hM (by kernel_rfl)
  simp only [lk, Option.map_none, Option.getD_none] at hl0
  have c1 : w.cell? ⟨F, 1, none⟩ = some (.map (some M)) := by rw [cell_at hF]; rfl
  have hM' : ∀ o, (w.alloc o).heap[M]? = some (.map (([] : List (Int × Value × Nat)).map mkEnt).toArray clock) := fun o => (Below.heap_alloc w o M (Array.getElem?_eq_some_iff.1 hM).1).trans hM
  have hu := fun o => mapUpdate_push Try.prog (w.alloc o) 41 3 49 M clock c.k [] (.pointer (some ⟨w.heap.size, 0, none⟩)) (by kernel_rfl) (by kernel_rfl) (hM' o) rfl
  simp only [List.nil_append] at hu
  have HH := Lib.hid (And.intro hF (And.intro hP (And.intro hpc (And.intro hM hl))))
  have Hst := Lib.hid hst
  clear hF hP hpc hM hM' hl hst
  go_enter Try.func20, Try.ntmps20
  go_wp2
  go_ret
  obtain ⟨hF, hP, hpc, hM, hl⟩ := HH.out
  have hMl := (Array.getElem?_eq_some_iff.1 hM).1
  refine ⟨rfl, ?_, ?_⟩
  · refine Fl.push (E := w.heap.size) (born := clock) (c0 := .int .i64 0) (c1 := .int .i64 0) (c2 := .complex .f64 0 0) (c3 := .bool false) (clock' := clock + 1) h1 h2 h3 (hS _ (Nat.le_refl _)) hF hP ?_ hM (by intro _ _ _ h; cases h) hl hlS ⟨rfl, rfl, rfl, by simp [putObj_size], fun k hk hne => ?_⟩ ?_ ?_ ?_ (d := true) ?_ ?_ ?_
    · simpa [undoSt, Hst.out, zOf] using hpc
    · rw [putObj_heap_ne _ _ _ _ (by simpa using hne)]; exact Below.heap_alloc w _ k hk
    · exact putObj_heap _ _ _ _ ((Below.heap_alloc w _ M hMl).trans hM)
    · rw [putObj_heap_ne _ _ _ _ (by omega)]; exact heap_alloc_new w _
    · intro h; cases h
    · simp [undoSt, Hst.out]
    · simp [undoSt, Hst.out]
    · simp [undoSt, Hst.out]
  · exact ((KeepS.refl _ _).alloc _).putObj h3 _

theorem undo_dead (c : Cfg) (S : Nat → Prop) (F : Nat) (st : FSt) (hst : st.ent = some true) (w : World) (h : Fl w S F c st) :
    Calls Try.prog 20 #[.pointer (some ⟨F, 0, none⟩), .int .i64 c.k] w fun e w' => e = .returned (.int .i64 0) ∧ w = w' := by
  obtain ⟨P, M, cap, clock, pc, lv, ents, h1, h2, h3, hF, hP, hpc, hM, hE, hl, hlS⟩ := h
  rw [hst] at hE
  obtain ⟨E, born, e0, e1, e2, e3, hBE, rfl, hEh, _⟩ := hE
  have hl0 := lookup_ents Try.prog w 41 3 49 M clock c.k _ (.pointer none) (by kernel_rfl) (by kernel_rfl) hM (by kernel_rfl)
  rw [lk_one] at hl0
  simp only [Option.map_some, Option.getD_some] at hl0
  have c1 : w.cell? ⟨F, 1, none⟩ = some (.map (some M)) := by rw [cell_at hF]; rfl
  have c2 : w.cell? ⟨E, 4, none⟩ = some (.bool true) := by rw [cell_at hEh]; rfl
  clear hF hP hpc hM hl hst hEh
  go_enter Try.func20, Try.ntmps20
  go_wp2
  go_ret
  exact ⟨rfl, rfl⟩

theorem heap_set_same {w : World} {g t : Nat} {cs : Array Value} {fz : Nat × Nat} (h : w.heap[g]? = some (.cells cs t fz)) (j : Nat) (v : Value) :
    (w.setCell ⟨g, j, none⟩ v).heap[g]? = some (.cells (cs.setIfInBounds j v) t fz) := by
  simp [World.setCell, Array.getElem?_modify, h]

theorem ne_obj {w : World} {g t M : Nat} {cs : Array Value} {fz : Nat × Nat} {o : Obj} (h : w.heap[g]? = some (.cells cs t fz)) (hM : w.heap[M]? = some o) (ho : ∀ cs t f, o ≠ .cells cs t f) : g ≠ M := by
  rintro rfl
  rw [h] at hM
  injection hM with hM
  exact ho _ _ _ hM.symm

theorem own_moved {w w1 : World} {base : Nat} {e : TypeId} {size n : Nat} {v : Value} {xs : List Value} (h : w.ownsRow base e size v n xs) (hm : ∀ k, v.ownBlock = some k → w1.heap[k]? = w.heap[k]?) : w1.ownsRow base e size v n xs := by
  obtain ⟨h1, h2⟩ := h
  refine ⟨h1, ?_⟩
  rcases h2 with h2 | ⟨g, cap, cur, rfl, hg, hh, r⟩
  · exact .inl h2
  · exact .inr ⟨g, cap, cur, rfl, hg, (hm g (by simp [Value.ownBlock])).trans hh, r⟩
theorem own_block {w : World} {base : Nat} {e : TypeId} {size n : Nat} {v : Value} {xs : List Value} (h : w.ownsRow base e size v n xs) (k : Nat) (hk : v.ownBlock = some k) : ∃ cells, w.heap[k]? = some (.cells cells e (0, 0)) := by
  rcases h.2 with ⟨rfl, _⟩ | ⟨g, cap, cur, rfl, hg, hh, r⟩
  · simp [Value.ownBlock] at hk
  · have : g = k := by simpa [Value.ownBlock] using hk
    subst this
    exact ⟨cur, hh⟩

theorem Fl.undone {w : World} {S : Nat → Prop} {F P M cap clock E born : Nat} {pc : Array Value} {lv : Value} {c : Cfg} {st : FSt} {e0 e1 e2 e3 : Value}
    (h1 : S F) (h2 : S P) (h3 : S M) (hBE : S E)
    (hF : w.heap[F]? = some (.cells #[.slice (some ⟨P, 0, none⟩) 1 cap, .map (some M), lv, .int .i64 st.ch] 44 (0, 0)))
    (hP : w.heap[P]? = some (.cells pc 26 (0, 0))) (hpc : (pc[0]?).isSome = true)
    (hM : w.heap[M]? = some (.map ([(c.k, .pointer (some ⟨E, 0, none⟩), born)].map mkEnt).toArray clock))
    (hl : w.ownsRow 0 29 4 lv st.late.length (lateCells c st.late)) (hlS : ∀ k, lv.ownBlock = some k → S k)
    (hE : w.heap[E]? = some (.cells #[e0, e1, e2, e3, .bool false] 51 (0, 0))) (hst : st.ent = some false) :
    Fl (((w.setCell ⟨P, 0, none⟩ (.complex .f64 c.z0.1 c.z0.2)).setCell ⟨F, 3, none⟩ (.int .i64 (st.ch + 1))).setCell ⟨E, 4, none⟩ (.bool true)).drew S F c (undoSt st) := by
  have nFP : F ≠ P := ne_types hF hP (by decide)
  have nFE : F ≠ E := ne_types hF hE (by decide)
  have nPE : P ≠ E := ne_types hP hE (by decide)
  have nFM : F ≠ M := ne_obj hF hM (by intro _ _ _ h; cases h)
  have nPM : P ≠ M := ne_obj hP hM (by intro _ _ _ h; cases h)
  have nEM : E ≠ M := ne_obj hE hM (by intro _ _ _ h; cases h)
  have s1 := heap_set_same hP 0 (.complex .f64 c.z0.1 c.z0.2)
  have s2 : (w.setCell ⟨P, 0, none⟩ (.complex .f64 c.z0.1 c.z0.2)).heap[F]? = _ := (Below.heap_setCell _ _ _ _ nFP).trans hF
  have s3 := heap_set_same s2 3 (.int .i64 (st.ch + 1))
  have hg : ∀ i, i ≠ P → i ≠ F → i ≠ E → (((w.setCell ⟨P, 0, none⟩ (.complex .f64 c.z0.1 c.z0.2)).setCell ⟨F, 3, none⟩ (.int .i64 (st.ch + 1))).setCell ⟨E, 4, none⟩ (.bool true)).heap[i]? = w.heap[i]? := fun i a b d =>
    (Below.heap_setCell _ _ _ _ d).trans ((Below.heap_setCell _ _ _ _ b).trans (Below.heap_setCell _ _ _ _ a))
  have s4 : ((w.setCell ⟨P, 0, none⟩ (.complex .f64 c.z0.1 c.z0.2)).setCell ⟨F, 3, none⟩ (.int .i64 (st.ch + 1))).heap[E]? = _ := (Below.heap_setCell _ _ _ _ nFE.symm).trans ((Below.heap_setCell _ _ _ _ nPE.symm).trans hE)
  have s5 := heap_set_same s4 4 (.bool true)
  have hch : undoSt st = { st with ent := some true, ch := st.ch + 1 } := by simp [undoSt, hst]
  rw [hch]
  refine ⟨P, M, cap, clock, pc.setIfInBounds 0 (.complex .f64 c.z0.1 c.z0.2), lv, [(c.k, .pointer (some ⟨E, 0, none⟩), born)], h1, h2, h3, ?_, ?_, ?_, ?_, ?_, ?_⟩
  · exact (Below.heap_setCell _ _ _ _ nFE).trans s3
  · exact (Below.heap_setCell _ _ _ _ nPE).trans ((Below.heap_setCell _ _ _ _ nFP.symm).trans s1)
  · cases hp : pc[0]? with
    | none => rw [hp] at hpc; cases hpc
    | some v =>
      have := (Array.getElem?_eq_some_iff.1 hp).1
      simp [this, zOf]
  · exact (hg M nPM.symm nFM.symm nEM.symm).trans hM
  · exact ⟨E, born, e0, e1, e2, e3, hBE, rfl, s5, by intro h; cases h⟩
  · refine ⟨own_moved hl fun k hk => ?_, hlS⟩
    obtain ⟨cs, hcs⟩ := own_block hl k hk
    exact hg k (ne_types hcs hP (by decide)) (ne_types hcs hF (by decide)) (ne_types hcs hE (by decide))

theorem undo_live (c : Cfg) (ok : CfgOk c) (S : Nat → Prop) (F : Nat) (st : FSt) (hst : st.ent = some false) (hc0 : 0 ≤ st.ch) (hc1 : st.ch ≤ 999) (w : World) (h : Fl w S F c st) :
    Calls Try.prog 20 #[.pointer (some ⟨F, 0, none⟩), .int .i64 c.k] w fun e w' => e = .returned (.int .i64 0) ∧ Fl w' S F c (undoSt st) ∧ KeepS S w w' := by
  obtain ⟨P, M, cap, clock, pc, lv, ents, h1, h2, h3, hF, hP, hpc, hM, hE, hl, hlS⟩ := h
  rw [hst] at hE hpc
  obtain ⟨E, born, e0, e1, e2, e3, hBE, rfl, hEh, hed⟩ := hE
  obtain ⟨rfl, rfl⟩ := hed rfl
  have hl0 := lookup_ents Try.prog w 41 3 49 M clock c.k _ (.pointer none) (by kernel_rfl) (by kernel_rfl) hM (by kernel_rfl)
  rw [lk_one] at hl0
  simp only [Option.map_some, Option.getD_some] at hl0
  have c0 : w.cell? ⟨F, 0, none⟩ = some (.slice (some ⟨P, 0, none⟩) 1 cap) := by rw [cell_at hF]; rfl
  have c1 : w.cell? ⟨F, 1, none⟩ = some (.map (some M)) := by rw [cell_at hF]; rfl
  have c3 : w.cell? ⟨F, 3, none⟩ = some (.int .i64 st.ch) := by rw [cell_at hF]; rfl
  have c4 : w.cell? ⟨E, 4, none⟩ = some (.bool false) := by rw [cell_at hEh]; rfl
  have c5 : w.cell? ⟨E, 1, none⟩ = some (.int .i64 0) := by rw [cell_at hEh]; rfl
  have c6 : w.cell? ⟨E, 2, none⟩ = some (.complex .f64 c.s.1 c.s.2) := by rw [cell_at hEh]; rfl
  have cz : w.cell? ⟨P, 0, none⟩ = some (.complex .f64 c.z1.1 c.z1.2) := by rw [cell_at hP]; exact hpc
  have f1 := frozen_at hF 3
  have f2 := frozen_at hP 0
  have f3 := frozen_at hEh 4
  have kneg : ∀ w, (Op.unary .neg (.complex .f64 c.s.1 c.s.2)).run Try.prog w = .ok (.complex .f64 (negB c.s.1) (negB c.s.2)) w := fun _ => rfl
  obtain ⟨a0, b0, ha0, hb0⟩ := ok.i0
  have A0 := Lib.hid ha0
  have B0 := Lib.hid hb0
  have HH := Lib.hid (And.intro hF (And.intro hP (And.intro hpc (And.intro hM (And.intro hl (And.intro hEh hst))))))
  clear ha0 hb0
  clear hF hP hpc hM hl hst hEh hed
  go_enter Try.func20, Try.ntmps20
  go_wp2
  go_region_with (go_at_call 21; go_loud (refine (move_ok F P cap c.z1.1 c.z1.2 (negB c.s.1) (negB c.s.2) c.z0.1 c.z0.2 _ _ st.ch ok.sub ok.p0 A0 B0 _ (by exact c0) (by exact cz) (by exact c3) hc0 (by omega) (by exact f2) (by exact f1)).mono ?_); rintro e w' ⟨rfl, rfl⟩)
  go_wp2
  all_goals
    go_ret
    obtain ⟨hF, hP, hpc, hM, hl, hEh, hst⟩ := HH.out
    refine ⟨rfl, Fl.undone h1 h2 h3 hBE hF hP (by rw [hpc]; rfl) hM hl hlS hEh hst, ?_⟩
    exact ((((KeepS.refl S w).setCell (p := ⟨P, 0, none⟩) h2 _).setCell (p := ⟨F, 3, none⟩) h1 _).setCell (p := ⟨E, 4, none⟩) hBE _).drew

theorem undo_any (c : Cfg) (ok : CfgOk c) (S : Nat → Prop) (F : Nat) (st : FSt) (hc0 : 0 ≤ st.ch) (hc1 : st.ch ≤ 999) (w : World) (hS : ∀ i, w.heap.size ≤ i → S i) (h : Fl w S F c st) :
    Calls Try.prog 20 #[.pointer (some ⟨F, 0, none⟩), .int .i64 c.k] w fun e w' => e = .returned (.int .i64 0) ∧ Fl w' S F c (undoSt st) ∧ KeepS S w w' := by
  cases hst : st.ent with
  | none => exact undo_none c S F st hst w hS h
  | some d =>
    cases d with
    | true =>
      refine (undo_dead c S F st hst w h).mono fun e w' hh => ?_
      obtain ⟨rfl, rfl⟩ := hh
      have : undoSt st = st := by simp [undoSt, hst]
      rw [this]
      exact ⟨rfl, h, KeepS.refl _ _⟩
    | false => exact undo_live c ok S F st hst hc0 hc1 w h

end Go.Proofs.Ytgkebieekpkmmaa
