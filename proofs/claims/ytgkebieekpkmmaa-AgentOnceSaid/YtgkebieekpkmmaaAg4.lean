import Derived.Test.YtgkebieekpkmmaaAg3
import Derived.Test.YtgkebieekpkmmaaWWords
import Derived.Deep.RegionLaw
namespace Go.Proofs.Ytgkebieekpkmmaa
open Go.RowKit

structure SumOk (s : Nat × Nat) : Prop where
  step : stepB s.1 s.2 = true
  go : ∃ a1 a2 c1 c2, cSumBits .add .f64 0 0 s.1 s.2 = some (a1, a2) ∧ stepB a1 a2 = true ∧ cSumBits .add .f64 a1 a2 0 0 = some (c1, c2)

theorem sum_ok (s : Nat × Nat) (h : SumOk s) (b : Nat) (w : World) (hc : w.cell? ⟨b, 0, none⟩ = some (.complex .f64 s.1 s.2)) :
    Calls Try.prog 13 #[.slice (some ⟨b, 0, none⟩) 1 1] w fun e w' => (∃ c1 c2, e = .returned (.tuple #[.complex .f64 c1 c2, .int .i64 0])) ∧ w = w' := by
  obtain ⟨a1, a2, c1, c2, h1, h2, h3⟩ := h.go
  exact (sum_one b s.1 s.2 a1 a2 c1 c2 h.step h1 h2 h3 w hc).mono fun e w' ⟨he, hw⟩ => ⟨⟨c1, c2, he⟩, hw⟩

def ordS (c : Cfg) (u : Bool) : Nat × Nat := if u then (0, 0) else c.s

theorem do_ord (c : Cfg) (ok : CfgOk c) (S : Nat → Prop) (F : Nat) (st : FSt) (u : Bool) (hc0 : 0 ≤ st.ch) (hc1 : st.ch ≤ 999) (w : World) (hS : ∀ i, w.heap.size ≤ i → S i) (h : Fl w S F c st) :
    Calls Try.prog 14 #[.pointer (some ⟨F, 0, none⟩), .agg #[.int .i64 c.k, .int .i64 0, .complex .f64 (ordS c u).1 (ordS c u).2, .bool u]] w fun e w' => e = .returned (.int .i64 (doE st u)) ∧ Fl w' S F c (doSt st u) ∧ KeepS S w w' := by
  have := do_any c ok S F st u hc0 hc1 w hS h
  cases u <;> exact this

theorem keeps2 {w : World} {S : Nat → Prop} {F : Nat} {c : Cfg} {st : FSt} (h : Fl w S F c st) (o o' : Obj) (n : Nat) : Fl (((w.alloc o).alloc o').drewN n) S F c st :=
  ((h.keeps ((Below.refl _ _).alloc (Nat.le_refl _) o)).keeps ((Below.refl _ _).alloc (Nat.le_refl _) o')).keeps (below_drewN' _ _)
theorem below2 {w : World} {S : Nat → Prop} (o o' : Obj) (n : Nat) : KeepS S w (((w.alloc o).alloc o').drewN n) :=
  (((KeepS.refl _ _).alloc o).alloc o').drewN n
theorem own_lt' {w : World} {base : Nat} {e : TypeId} {size n : Nat} {v : Value} {xs : List Value} (h : w.ownsRow base e size v n xs) (k : Nat) (hk : v.ownBlock = some k) : k < w.heap.size := by
  obtain ⟨cs, hcs⟩ := own_block h k hk
  exact (Array.getElem?_eq_some_iff.1 hcs).1
theorem Fl.mono {w : World} {S S' : Nat → Prop} {F : Nat} {c : Cfg} {st : FSt} (h : Fl w S F c st) (hs : ∀ i, i < w.heap.size → S i → S' i) : Fl w S' F c st := by
  obtain ⟨P, M, cap, clock, pc, lv, ents, h1, h2, h3, hF, hP, hpc, hM, hE, hl, hlS⟩ := h
  refine ⟨P, M, cap, clock, pc, lv, ents, hs F (Array.getElem?_eq_some_iff.1 hF).1 h1, hs P (Array.getElem?_eq_some_iff.1 hP).1 h2, hs M (Array.getElem?_eq_some_iff.1 hM).1 h3, hF, hP, hpc, hM, ?_, hl, fun k hk => hs k (own_lt' hl k hk) (hlS k hk)⟩
  cases hst : st.ent with
  | none => rw [hst] at hE; exact hE
  | some d =>
    rw [hst] at hE
    obtain ⟨E, born, c0, c1, c2, c3, hE, he, hh, hd⟩ := hE
    exact ⟨E, born, c0, c1, c2, c3, hs E (Array.getElem?_eq_some_iff.1 hh).1 hE, he, hh, hd⟩
theorem KeepS.mono {w w' : World} {S S' : Nat → Prop} (h : KeepS S w w') (hs : ∀ i, i < w.heap.size → S i → S' i) : KeepS S' w w' :=
  ⟨h.os, h.tape, h.output, h.size, fun k hk hn => h.block k hk (fun hh => hn (hs k hk hh))⟩

theorem call_c1 (c : Cfg) (u : Bool) (so : SumOk (ordS c u)) (S : Nat → Prop) (F : Nat) (st : FSt) (fate : Int) (hf : fate = 1) (w : World) (_hS : ∀ i, w.heap.size ≤ i → S i) (h : Fl w S F c st) :
    Calls Try.prog 6 #[.pointer (some ⟨F, 0, none⟩), .agg #[.int .i64 c.k, .int .i64 0, .complex .f64 (ordS c u).1 (ordS c u).2, .bool u], .int .i64 fate] w fun e w' => e = .returned (.int .i64 60) ∧ Fl w' S F c st ∧ KeepS S w w' := by
  have H := Lib.hid h
  obtain ⟨P, M, cap, clock, pc, lv, ents, h1, h2, h3, hF, hP, hpc, hM, hE, hl, hlS⟩ := h
  have c0 : w.cell? ⟨F, 0, none⟩ = some (.slice (some ⟨P, 0, none⟩) 1 cap) := by rw [cell_at hF]; rfl
  have c0' := fun o o' => pw_cell_alloc _ o' _ (pw_cell_alloc w o _ c0)
  have t1 : (fate == 1) = true := by simp [hf]
  have t2 : (fate == 2) = false := by simp [hf]
  have t4 : (fate == 4) = false := by simp [hf]
  have t3 : (fate == 3) = false := by simp [hf]
  have t6 : (fate == 6) = false := by simp [hf]
  have t5 : (fate == 5) = false := by simp [hf]
  clear hF hP hpc hM hE hl hf
  go_enter Try.func6, Try.ntmps6
  go_wp2_with (go_at_call 13; refine (sum_ok (ordS c u) so _ _ (by go_simp)).mono ?_; rintro e w' ⟨⟨s1, s2, rfl⟩, rfl⟩)
  go_quiet (fail)
  go_wp2
  go_ret
  exact ⟨rfl, keeps2 H.out _ _ _, below2 _ _ _⟩

theorem call_c2 (c : Cfg) (u : Bool) (so : SumOk (ordS c u)) (S : Nat → Prop) (F : Nat) (st : FSt) (fate : Int) (hf : fate = 2) (w : World) (_hS : ∀ i, w.heap.size ≤ i → S i) (h : Fl w S F c st) :
    Calls Try.prog 6 #[.pointer (some ⟨F, 0, none⟩), .agg #[.int .i64 c.k, .int .i64 0, .complex .f64 (ordS c u).1 (ordS c u).2, .bool u], .int .i64 fate] w fun e w' => e = .returned (.int .i64 61) ∧ Fl w' S F c st ∧ KeepS S w w' := by
  have H := Lib.hid h
  obtain ⟨P, M, cap, clock, pc, lv, ents, h1, h2, h3, hF, hP, hpc, hM, hE, hl, hlS⟩ := h
  have c0 : w.cell? ⟨F, 0, none⟩ = some (.slice (some ⟨P, 0, none⟩) 1 cap) := by rw [cell_at hF]; rfl
  have c0' := fun o o' => pw_cell_alloc _ o' _ (pw_cell_alloc w o _ c0)
  have t1 : (fate == 1) = false := by simp [hf]
  have t2 : (fate == 2) = true := by simp [hf]
  have t4 : (fate == 4) = false := by simp [hf]
  have t3 : (fate == 3) = false := by simp [hf]
  have t6 : (fate == 6) = false := by simp [hf]
  have t5 : (fate == 5) = false := by simp [hf]
  clear hF hP hpc hM hE hl hf
  go_enter Try.func6, Try.ntmps6
  go_wp2_with (go_at_call 13; refine (sum_ok (ordS c u) so _ _ (by go_simp)).mono ?_; rintro e w' ⟨⟨s1, s2, rfl⟩, rfl⟩)
  go_quiet (fail)
  go_wp2
  go_ret
  exact ⟨rfl, keeps2 H.out _ _ _, below2 _ _ _⟩

theorem call_c3 (c : Cfg) (u : Bool) (so : SumOk (ordS c u)) (S : Nat → Prop) (F : Nat) (st : FSt) (fate : Int) (hf : fate = 3) (w : World) (_hS : ∀ i, w.heap.size ≤ i → S i) (h : Fl w S F c st) :
    Calls Try.prog 6 #[.pointer (some ⟨F, 0, none⟩), .agg #[.int .i64 c.k, .int .i64 0, .complex .f64 (ordS c u).1 (ordS c u).2, .bool u], .int .i64 fate] w fun e w' => e = .returned (.int .i64 62) ∧ Fl w' S F c st ∧ KeepS S w w' := by
  have H := Lib.hid h
  obtain ⟨P, M, cap, clock, pc, lv, ents, h1, h2, h3, hF, hP, hpc, hM, hE, hl, hlS⟩ := h
  have c0 : w.cell? ⟨F, 0, none⟩ = some (.slice (some ⟨P, 0, none⟩) 1 cap) := by rw [cell_at hF]; rfl
  have c0' := fun o o' => pw_cell_alloc _ o' _ (pw_cell_alloc w o _ c0)
  have t1 : (fate == 1) = false := by simp [hf]
  have t2 : (fate == 2) = false := by simp [hf]
  have t4 : (fate == 4) = false := by simp [hf]
  have t3 : (fate == 3) = true := by simp [hf]
  have t6 : (fate == 6) = false := by simp [hf]
  have t5 : (fate == 5) = false := by simp [hf]
  clear hF hP hpc hM hE hl hf
  go_enter Try.func6, Try.ntmps6
  go_wp2_with (go_at_call 13; refine (sum_ok (ordS c u) so _ _ (by go_simp)).mono ?_; rintro e w' ⟨⟨s1, s2, rfl⟩, rfl⟩)
  go_quiet (fail)
  go_wp2
  go_ret
  exact ⟨rfl, keeps2 H.out _ _ _, below2 _ _ _⟩

theorem doSt_ch (st : FSt) (u : Bool) (h0 : 0 ≤ st.ch) (h1 : st.ch ≤ 998) : 0 ≤ (doSt st u).ch ∧ (doSt st u).ch ≤ 999 := by
  unfold doSt undoSt
  cases u <;> (cases hst : st.ent with | none => simp; omega | some d => cases d <;> simp <;> omega)

theorem call_c4 (c : Cfg) (ok : CfgOk c) (u : Bool) (so : SumOk (ordS c u)) (S : Nat → Prop) (F : Nat) (st : FSt) (fate : Int) (hc0 : 0 ≤ st.ch) (hc1 : st.ch ≤ 998) (hf : fate = 4) (w : World) (hS : ∀ i, w.heap.size ≤ i → S i) (h : Fl w S F c st) :
    Calls Try.prog 6 #[.pointer (some ⟨F, 0, none⟩), .agg #[.int .i64 c.k, .int .i64 0, .complex .f64 (ordS c u).1 (ordS c u).2, .bool u], .int .i64 fate] w fun e w' => e = .returned (.int .i64 62) ∧ Fl w' S F c (doSt st u) ∧ KeepS S w w' := by
  have H := Lib.hid h
  obtain ⟨P, M, cap, clock, pc, lv, ents, h1, h2, h3, hF, hP, hpc, hM, hE, hl, hlS⟩ := h
  have c0 : w.cell? ⟨F, 0, none⟩ = some (.slice (some ⟨P, 0, none⟩) 1 cap) := by rw [cell_at hF]; rfl
  have c0' := fun o o' => pw_cell_alloc _ o' _ (pw_cell_alloc w o _ c0)
  have t1 : (fate == 1) = false := by simp [hf]
  have t2 : (fate == 2) = false := by simp [hf]
  have t4 : (fate == 4) = true := by simp [hf]
  have t3 : (fate == 3) = false := by simp [hf]
  have t6 : (fate == 6) = false := by simp [hf]
  have t5 : (fate == 5) = false := by simp [hf]
  clear hF hP hpc hM hE hl hf
  go_enter Try.func6, Try.ntmps6
  go_wp2_with (go_at_call 13; refine (sum_ok (ordS c u) so _ _ (by go_simp)).mono ?_; rintro e w' ⟨⟨s1, s2, rfl⟩, rfl⟩)
  go_quiet (fail)
  go_wp2_with (go_at_call 14; refine (do_ord c ok S F st u hc0 (by omega) _ (by intro i hi; exact hS i (by simp at hi; omega)) (by exact keeps2 H.out _ _ _)).mono ?_; rintro e w1 ⟨rfl, hfl, hbe⟩)
  go_ret
  exact ⟨rfl, hfl, (below2 _ _ _).trans hbe⟩

theorem call_c0 (c : Cfg) (ok : CfgOk c) (u : Bool) (so : SumOk (ordS c u)) (S : Nat → Prop) (F : Nat) (st : FSt) (fate : Int) (hc0 : 0 ≤ st.ch) (hc1 : st.ch ≤ 998) (hf : fate ≠ 1 ∧ fate ≠ 2 ∧ fate ≠ 3 ∧ fate ≠ 4 ∧ fate ≠ 5 ∧ fate ≠ 6) (w : World) (hS : ∀ i, w.heap.size ≤ i → S i) (h : Fl w S F c st) :
    Calls Try.prog 6 #[.pointer (some ⟨F, 0, none⟩), .agg #[.int .i64 c.k, .int .i64 0, .complex .f64 (ordS c u).1 (ordS c u).2, .bool u], .int .i64 fate] w fun e w' => e = .returned (.int .i64 (doE st u)) ∧ Fl w' S F c (doSt st u) ∧ KeepS S w w' := by
  have H := Lib.hid h
  obtain ⟨P, M, cap, clock, pc, lv, ents, h1, h2, h3, hF, hP, hpc, hM, hE, hl, hlS⟩ := h
  have c0 : w.cell? ⟨F, 0, none⟩ = some (.slice (some ⟨P, 0, none⟩) 1 cap) := by rw [cell_at hF]; rfl
  have c0' := fun o o' => pw_cell_alloc _ o' _ (pw_cell_alloc w o _ c0)
  have t1 : (fate == 1) = false := by simp [hf]
  have t2 : (fate == 2) = false := by simp [hf]
  have t4 : (fate == 4) = false := by simp [hf]
  have t3 : (fate == 3) = false := by simp [hf]
  have t6 : (fate == 6) = false := by simp [hf]
  have t5 : (fate == 5) = false := by simp [hf]
  clear hF hP hpc hM hE hl hf
  go_enter Try.func6, Try.ntmps6
  go_wp2_with (go_at_call 13; refine (sum_ok (ordS c u) so _ _ (by go_simp)).mono ?_; rintro e w' ⟨⟨s1, s2, rfl⟩, rfl⟩)
  go_quiet (fail)
  go_wp2_with (go_at_call 14; refine (do_ord c ok S F st u hc0 (by omega) _ (by intro i hi; exact hS i (by simp at hi; omega)) (by exact keeps2 H.out _ _ _)).mono ?_; rintro e w1 ⟨rfl, hfl, hbe⟩)
  go_ret
  exact ⟨rfl, hfl, (below2 _ _ _).trans hbe⟩

theorem call_c5 (c : Cfg) (ok : CfgOk c) (u : Bool) (so : SumOk (ordS c u)) (S : Nat → Prop) (F : Nat) (st : FSt) (fate : Int) (hc0 : 0 ≤ st.ch) (hc1 : st.ch ≤ 998) (hf : fate = 5) (w : World) (hS : ∀ i, w.heap.size ≤ i → S i) (h : Fl w S F c st) :
    Calls Try.prog 6 #[.pointer (some ⟨F, 0, none⟩), .agg #[.int .i64 c.k, .int .i64 0, .complex .f64 (ordS c u).1 (ordS c u).2, .bool u], .int .i64 fate] w fun e w' => e = .returned (.int .i64 (doE (doSt st u) u)) ∧ Fl w' S F c (doSt (doSt st u) u) ∧ KeepS S w w' := by
  have H := Lib.hid h
  obtain ⟨P, M, cap, clock, pc, lv, ents, h1, h2, h3, hF, hP, hpc, hM, hE, hl, hlS⟩ := h
  have c0 : w.cell? ⟨F, 0, none⟩ = some (.slice (some ⟨P, 0, none⟩) 1 cap) := by rw [cell_at hF]; rfl
  have c0' := fun o o' => pw_cell_alloc _ o' _ (pw_cell_alloc w o _ c0)
  have t1 : (fate == 1) = false := by simp [hf]
  have t2 : (fate == 2) = false := by simp [hf]
  have t4 : (fate == 4) = false := by simp [hf]
  have t3 : (fate == 3) = false := by simp [hf]
  have t6 : (fate == 6) = false := by simp [hf]
  have t5 : (fate == 5) = true := by simp [hf]
  clear hF hP hpc hM hE hl hf
  go_enter Try.func6, Try.ntmps6
  go_wp2_with (go_at_call 13; refine (sum_ok (ordS c u) so _ _ (by go_simp)).mono ?_; rintro e w' ⟨⟨s1, s2, rfl⟩, rfl⟩)
  go_quiet (fail)
  go_wp2_with fail
  have H' := fun o o' n => Lib.hid (keeps2 (H.out.mono (S' := fun i => S i ∧ i ≠ w.heap.size) (fun i hi hs => ⟨hs, by omega⟩)) o o' n)
  refine (do_ord c ok (fun i => S i ∧ i ≠ w.heap.size) F st u hc0 (by omega) _ (by intro i hi; simp at hi; exact ⟨hS i (by omega), by omega⟩) (by exact (H' _ _ _).out)).mono ?_
  rintro e w1 ⟨rfl, hfl, hbe⟩
  have gN : w1.heap[w.heap.size]? = some (.cells #[.int .i64 c.k, .int .i64 0, .complex .f64 (ordS c u).1 (ordS c u).2, .bool u] 29 (0, 0)) :=
    (hbe.block w.heap.size (by simp; omega) (fun h => h.2 rfl)).trans ((Below.heap_alloc _ _ _ (by simp)).trans (heap_alloc_new w _))
  have hsz : w.heap.size + 2 ≤ w1.heap.size := by have := hbe.size; simpa using this
  have n0 : w1.cell? ⟨w.heap.size, 0, none⟩ = some (.int .i64 c.k) := by rw [cell_at gN]; rfl
  have n1 : w1.cell? ⟨w.heap.size, 1, none⟩ = some (.int .i64 0) := by rw [cell_at gN]; rfl
  have n2 : w1.cell? ⟨w.heap.size, 2, none⟩ = some (.complex .f64 (ordS c u).1 (ordS c u).2) := by rw [cell_at gN]; rfl
  have n3 : w1.cell? ⟨w.heap.size, 3, none⟩ = some (.bool u) := by rw [cell_at gN]; rfl
  have HF := Lib.hid hfl
  have HB := Lib.hid hbe
  have hch : 0 ≤ (doSt st u).ch ∧ (doSt st u).ch ≤ 999 := doSt_ch st u hc0 hc1
  clear gN hfl hbe H'
  go_wp2_with fail
  refine (do_ord c ok (fun i => S i ∧ i ≠ w.heap.size) F (doSt st u) u hch.1 hch.2 _ (by intro i hi; exact ⟨hS i (by omega), by omega⟩) (by exact HF.out)).mono ?_
  rintro e w2 ⟨rfl, hfl2, hbe2⟩
  go_wp2
  go_ret
  refine ⟨rfl, hfl2.mono (fun _ _ h => h.1), ?_⟩
  exact ((below2 _ _ _).trans (HB.out.trans hbe2)).mono (fun _ _ h => h.1)

end Go.Proofs.Ytgkebieekpkmmaa
