import Derived.Test.YtgkebieekpkmmaaAg8
namespace Go.Proofs.Ytgkebieekpkmmaa
open Go.RowKit

def c7 : Cfg := ⟨7, (0, 0), (4607182418800017408, 0), (4607182418800017408, 0)⟩
def c1c : Cfg := ⟨1, (4613937818241073152, 4613937818241073152), (4616189618054758400, 4616189618054758400), (4607182418800017408, 4607182418800017408)⟩

theorem ok7 : CfgOk c7 where
  add := by kernel_rfl
  sub := by kernel_rfl
  p0 := by kernel_rfl
  p1 := by kernel_rfl
  i0 := ⟨0, 0, by kernel_rfl, by kernel_rfl⟩
  i1 := ⟨1, 0, by kernel_rfl, by kernel_rfl⟩
theorem ok1 : CfgOk c1c where
  add := by kernel_rfl
  sub := by kernel_rfl
  p0 := by kernel_rfl
  p1 := by kernel_rfl
  i0 := ⟨3, 3, by kernel_rfl, by kernel_rfl⟩
  i1 := ⟨4, 4, by kernel_rfl, by kernel_rfl⟩
theorem so7 (u : Bool) : SumOk (ordS c7 u) := by
  cases u
  · exact ⟨by kernel_rfl, 4607182418800017408, 0, 4607182418800017408, 0, by kernel_rfl, by kernel_rfl, by kernel_rfl⟩
  · exact ⟨by kernel_rfl, 0, 0, 0, 0, by kernel_rfl, by kernel_rfl, by kernel_rfl⟩
theorem so1 (u : Bool) : SumOk (ordS c1c u) := by
  cases u
  · exact ⟨by kernel_rfl, 4607182418800017408, 4607182418800017408, 4607182418800017408, 4607182418800017408, by kernel_rfl, by kernel_rfl, by kernel_rfl⟩
  · exact ⟨by kernel_rfl, 0, 0, 0, 0, by kernel_rfl, by kernel_rfl, by kernel_rfl⟩

def Box (w : World) (N : Nat) (c : Cfg) (u : Bool) : Prop := w.heap[N]? = some (.cells #[.int .i64 c.k, .int .i64 0, .complex .f64 (ordS c u).1 (ordS c u).2, .bool u] 29 (0, 0))
theorem Box.keep {w w' : World} {N : Nat} {c : Cfg} {u : Bool} {S : Nat → Prop} (h : Box w N c u) (hk : KeepS S w w') (hn : ¬ S N) : Box w' N c u :=
  (hk.block N (Array.getElem?_eq_some_iff.1 h).1 hn).trans h
theorem Box.below {w w' : World} {N : Nat} {c : Cfg} {u : Bool} (h : Box w N c u) (hk : Below w.heap.size w w') : Box w' N c u :=
  (hk.block N (Array.getElem?_eq_some_iff.1 h).1).trans h
theorem Box.lt {w : World} {N : Nat} {c : Cfg} {u : Bool} (h : Box w N c u) : N < w.heap.size := (Array.getElem?_eq_some_iff.1 h).1
theorem Box.cells {w : World} {N : Nat} {c : Cfg} {u : Bool} (h : Box w N c u) : w.cell? ⟨N, 0, none⟩ = some (.int .i64 c.k) ∧ w.cell? ⟨N, 1, none⟩ = some (.int .i64 0) ∧ w.cell? ⟨N, 2, none⟩ = some (.complex .f64 (ordS c u).1 (ordS c u).2) ∧ w.cell? ⟨N, 3, none⟩ = some (.bool u) :=
  ⟨by rw [cell_at h]; rfl, by rw [cell_at h]; rfl, by rw [cell_at h]; rfl, by rw [cell_at h]; rfl⟩

theorem call7o (S : Nat → Prop) (F : Nat) (st : FSt) (fate : Int) (hlen : st.late.length ≤ 1000) (hc0 : 0 ≤ st.ch) (hc1 : st.ch ≤ 998) (w : World) (hS : ∀ i, w.heap.size ≤ i → S i) (h : Fl w S F c7 st) :
    Calls Try.prog 6 #[.pointer (some ⟨F, 0, none⟩), .agg #[.int .i64 7, .int .i64 0, .complex .f64 4607182418800017408 0, .bool false], .int .i64 fate] w fun e w' => e = .returned (.int .i64 (callE st false fate)) ∧ Fl w' S F c7 (callSt st false fate) ∧ KeepS S w w' :=
  call_any c7 ok7 false (so7 false) S F st fate hlen hc0 hc1 w hS h
theorem call7u (S : Nat → Prop) (F : Nat) (st : FSt) (fate : Int) (hlen : st.late.length ≤ 1000) (hc0 : 0 ≤ st.ch) (hc1 : st.ch ≤ 998) (w : World) (hS : ∀ i, w.heap.size ≤ i → S i) (h : Fl w S F c7 st) :
    Calls Try.prog 6 #[.pointer (some ⟨F, 0, none⟩), .agg #[.int .i64 7, .int .i64 0, .complex .f64 0 0, .bool true], .int .i64 fate] w fun e w' => e = .returned (.int .i64 (callE st true fate)) ∧ Fl w' S F c7 (callSt st true fate) ∧ KeepS S w w' :=
  call_any c7 ok7 true (so7 true) S F st fate hlen hc0 hc1 w hS h

theorem call7a (S : Nat → Prop) (F : Nat) (w : World) (hS : ∀ i, w.heap.size ≤ i → S i) (h : Fl w S F c7 ⟨none, [], 0⟩) :
    Calls Try.prog 6 #[.pointer (some ⟨F, 0, none⟩), .agg #[.int .i64 7, .int .i64 0, .complex .f64 4607182418800017408 0, .bool false], .int .i64 5] w fun e w' => e = .returned (.int .i64 0) ∧ Fl w' S F c7 ⟨some false, [], 1⟩ ∧ KeepS S w w' :=
  call7o S F ⟨none, [], 0⟩ 5 (by simp) (by simp) (by simp) w hS h
theorem call7b (S : Nat → Prop) (F : Nat) (w : World) (hS : ∀ i, w.heap.size ≤ i → S i) (h : Fl w S F c7 ⟨some false, [], 1⟩) :
    Calls Try.prog 6 #[.pointer (some ⟨F, 0, none⟩), .agg #[.int .i64 7, .int .i64 0, .complex .f64 0 0, .bool true], .int .i64 0] w fun e w' => e = .returned (.int .i64 0) ∧ Fl w' S F c7 ⟨some true, [], 2⟩ ∧ KeepS S w w' :=
  call7u S F ⟨some false, [], 1⟩ 0 (by simp) (by simp) (by simp) w hS h
theorem call7c (S : Nat → Prop) (F : Nat) (w : World) (hS : ∀ i, w.heap.size ≤ i → S i) (h : Fl w S F c7 ⟨some true, [], 2⟩) :
    Calls Try.prog 6 #[.pointer (some ⟨F, 0, none⟩), .agg #[.int .i64 7, .int .i64 0, .complex .f64 4607182418800017408 0, .bool false], .int .i64 0] w fun e w' => e = .returned (.int .i64 63) ∧ Fl w' S F c7 ⟨some true, [], 2⟩ ∧ KeepS S w w' :=
  call7o S F ⟨some true, [], 2⟩ 0 (by simp) (by simp) (by simp) w hS h

theorem Fl.lt {w : World} {S : Nat → Prop} {F : Nat} {c : Cfg} {st : FSt} (h : Fl w S F c st) : F < w.heap.size := by
  obtain ⟨P, M, cap, clock, pc, lv, ents, h1, h2, h3, hF, _⟩ := h
  exact (Array.getElem?_eq_some_iff.1 hF).1

theorem cell_keep {w w' : World} {S : Nat → Prop} {g j : Nat} {v : Value} (h : w.cell? ⟨g, j, none⟩ = some v) (hk : KeepS S w w') (hn : ¬ S g) : w'.cell? ⟨g, j, none⟩ = some v :=
  (World.cell?_of_block (w := w) (hk.block g (World.block_lt_of_cell? w _ h) hn)).trans h
theorem cell_below {w w' : World} {g j : Nat} {v : Value} (h : w.cell? ⟨g, j, none⟩ = some v) (hk : Below w.heap.size w w') : w'.cell? ⟨g, j, none⟩ = some v :=
  (World.cell?_of_block (w := w) (hk.block g (World.block_lt_of_cell? w _ h))).trans h

theorem anchor_ok (w : World) : Calls Try.prog 4 #[] w fun e w' => e = .returned (.bool true) ∧ Below w.heap.size w w' := by
  go_enter Try.func4, Try.ntmps4
  go_wp2_with fail
  refine (new_one c7 ok7 w.heap.size _ (by show World.cell? _ _ = some (.complex .f64 0 0); go_simp)).mono ?_
  rintro e w1 ⟨F, rfl, hf, hb⟩
  have hsz1 : w.heap.size + 1 ≤ w1.heap.size := by have := hb.size; simpa using this
  have hf1 : Fl w1 (fun i => w.heap.size ≤ i ∧ i ≠ w1.heap.size) F c7 ⟨none, [], 0⟩ := hf.mono (fun i hi hs => by simp at hs; exact ⟨by omega, by omega⟩)
  have hb1 : Below w.heap.size w w1 := ((Below.refl _ _).alloc (Nat.le_refl _) _).trans (hb.mono (by simp))
  have H1 := Lib.hid (And.intro hf1 hb1)
  have hN : ∀ i, w1.heap.size + 1 ≤ i → (w.heap.size ≤ i ∧ i ≠ w1.heap.size) := fun i hi => ⟨by omega, by omega⟩
  have hnN : ¬ (w.heap.size ≤ w1.heap.size ∧ w1.heap.size ≠ w1.heap.size) := fun h => h.2 rfl
  have HN := Lib.hid (And.intro hN hnN)
  clear hf hb hf1 hb1 hN hnN
  have k2 := fun (w : World) (a : Addr) => run_store_cx Try.prog w a 4607182418800017408 0 .plain
  go_wp2_with fail
  refine (call7a (fun i => w.heap.size ≤ i ∧ i ≠ w1.heap.size) F _ (by intro i hi; exact HN.out.1 i (by simpa using hi)) (by exact H1.out.1.keeps ((Below.refl _ _).alloc (Nat.le_refl _) _))).mono ?_
  rintro e w2 ⟨rfl, hf2, hk2⟩
  have hbox : Box w2 w1.heap.size c7 false := Box.keep (heap_alloc_new w1 _) hk2 HN.out.2
  have hle2 : w1.heap.size + 1 ≤ w2.heap.size := by have := hk2.size; simpa using this
  have hkb : KeepS (fun i => w.heap.size ≤ i ∧ i ≠ w1.heap.size) w1 w2 := ((KeepS.refl _ _).alloc _).trans hk2
  have H2 := Lib.hid (And.intro hf2 (And.intro hbox hkb))
  obtain ⟨b0, b1, b2, b3⟩ : w2.cell? ⟨w1.heap.size, 0, none⟩ = some (.int .i64 7) ∧ w2.cell? ⟨w1.heap.size, 1, none⟩ = some (.int .i64 0) ∧ w2.cell? ⟨w1.heap.size, 2, none⟩ = some (.complex .f64 4607182418800017408 0) ∧ w2.cell? ⟨w1.heap.size, 3, none⟩ = some (.bool false) := hbox.cells
  clear hf2 hk2 hbox hkb
  go_wp2_with fail
  refine (places_one c7 _ F _ _ (by exact H2.out.1)).mono ?_
  rintro e w3 ⟨g, cp, rfl, hz3, hg3, hg3', hb3⟩
  have hf3 : Fl w3 (fun i => (w.heap.size ≤ i ∧ i ≠ w1.heap.size) ∧ i ≠ g) F c7 ⟨some false, [], 1⟩ :=
    ((H2.out.1).mono (fun i hi hs => ⟨hs, by omega⟩)).keeps hb3
  have H3 := Lib.hid (And.intro hf3 hb3)
  clear hf3
  have hz3' : w3.cell? ⟨g, 0, none⟩ = some (.complex .f64 4607182418800017408 0) := hz3
  have hle3 : w2.heap.size ≤ w3.heap.size := hb3.size
  clear hz3 hb3
  go_wp2_with fail
  refine (changes_one c7 _ F _ _ (by exact H3.out.1)).mono ?_
  rintro e w3' ⟨rfl, rfl⟩
  go_wp2_with fail
  refine (call7b (fun i => (w.heap.size ≤ i ∧ i ≠ w1.heap.size) ∧ i ≠ g) F _ (by intro i hi; exact ⟨HN.out.1 i (by omega), by omega⟩) (by exact H3.out.1)).mono ?_
  rintro e w4 ⟨rfl, hf4, hk4⟩
  have hbox4 : Box w4 w1.heap.size c7 false := (H2.out.2.1.below H3.out.2).keep hk4 (fun h => HN.out.2 h.1)
  have hle4 : w3.heap.size ≤ w4.heap.size := hk4.size
  obtain ⟨d0, d1, d2, d3⟩ : w4.cell? ⟨w1.heap.size, 0, none⟩ = some (.int .i64 7) ∧ w4.cell? ⟨w1.heap.size, 1, none⟩ = some (.int .i64 0) ∧ w4.cell? ⟨w1.heap.size, 2, none⟩ = some (.complex .f64 4607182418800017408 0) ∧ w4.cell? ⟨w1.heap.size, 3, none⟩ = some (.bool false) := hbox4.cells
  have H4 := Lib.hid (And.intro hf4 hk4)
  clear hf4 hk4 hbox4 b0 b1 b2 b3
  go_wp2_with fail
  refine (call7c (fun i => (w.heap.size ≤ i ∧ i ≠ w1.heap.size) ∧ i ≠ g) F _ (by intro i hi; exact ⟨HN.out.1 i (by omega), by omega⟩) (by exact H4.out.1)).mono ?_
  rintro e w5 ⟨rfl, hf5, hk5⟩
  have H5 := Lib.hid (And.intro hf5 hk5)
  have hle5 : w4.heap.size ≤ w5.heap.size := hk5.size
  clear hf5 hk5 d0 d1 d2 d3
  go_wp2_with fail
  refine (places_one c7 _ F _ _ (by exact H5.out.1)).mono ?_
  rintro e w6 ⟨g6, cp6, rfl, hz6, _, _, hb6⟩
  have hz6' : w6.cell? ⟨g6, 0, none⟩ = some (.complex .f64 0 0) := hz6
  have hz5 : w6.cell? ⟨g, 0, none⟩ = some (.complex .f64 4607182418800017408 0) := by
    have q4 := cell_keep hz3' H4.out.2 (fun h => h.2 rfl)
    have q5 := cell_keep q4 H5.out.2 (fun h => h.2 rfl)
    exact cell_below q5 hb6
  have o1 : FloatKind.f64.format.order 4607182418800017408 4607182418800017408 = some Ordering.eq := by kernel_rfl
  have o0 : FloatKind.f64.format.order 0 0 = some Ordering.eq := by kernel_rfl
  have H6 := Lib.hid hb6
  clear hz6 hb6
  go_wp2
  go_ret
  refine ⟨rfl, ?_⟩
  have t3 : KeepS (fun i => w.heap.size ≤ i) w w3 := ((KeepS.of_below H1.out.2).trans (H2.out.2.2.mono (fun _ _ h => h.1))).trans (KeepS.of_below H3.out.2)
  have t5 := t3.trans ((H4.out.2.mono (fun _ _ h => h.1.1)).trans (H5.out.2.mono (fun _ _ h => h.1.1)))
  exact (t5.trans (KeepS.of_below H6.out)).below (Nat.le_refl _) (fun i h => h)

end Go.Proofs.Ytgkebieekpkmmaa
