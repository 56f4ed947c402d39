import Derived.Test.YtgkebieekpkmmaaAg7
namespace Go.Proofs.Ytgkebieekpkmmaa
open Go.RowKit

theorem new_one (c : Cfg) (ok : CfgOk c) (b : Nat) (w : World) (hc : w.cell? ⟨b, 0, none⟩ = some (.complex .f64 c.z0.1 c.z0.2)) :
    Calls Try.prog 5 #[.slice (some ⟨b, 0, none⟩) 1 1] w fun e w' => ∃ F, e = .returned (.pointer (some ⟨F, 0, none⟩)) ∧ Fl w' (fun i => w.heap.size ≤ i) F c ⟨none, [], 0⟩ ∧ Below w.heap.size w w' := by
  obtain ⟨a0, b0, ha0, hb0⟩ := ok.i0
  have A0 := Lib.hid ha0
  have B0 := Lib.hid hb0
  have hmm := @run_makeMap Try.prog
  have q1 : ∀ j u, ([.complex .f64 c.z0.1 c.z0.2] : List Value)[j]? = some u → w.cell? ((⟨b, 0, none⟩ : Addr).add j) = some u := by
    intro j u hj
    match j with
    | 0 => simp at hj; subst hj; exact hc
    | j + 1 => simp at hj
  have q2 : ∀ u ∈ ([.complex .f64 c.z0.1 c.z0.2] : List Value), u.oneCell' = true := by intro u hu; simp at hu; subst hu; rfl
  have Q1 := Lib.hid q1
  have Q2 := Lib.hid q2
  clear ha0 hb0 q1 q2
  go_enter Try.func5, Try.ntmps5
  go_wp2
  refine wp_loop_rounds 2 ?_
  rw [rounds_succ]
  go_wp2_with (go_at_call 11; refine (parts_ok _ _ a0 b0 ok.p0 A0.out B0.out _).mono ?_; rintro e w' ⟨rfl, rfl⟩)
  rw [rounds_succ]
  go_wp2_with fail
  refine (clone_cx ⟨b, 0, none⟩ 1 1 [.complex .f64 c.z0.1 c.z0.2] rfl _ (by omega) Q1.out Q2.out).mono ?_
  rintro e w1 ⟨v, rfl, hown, hbel⟩
  obtain ⟨_, ⟨_, h0⟩ | ⟨g, cp, cur, rfl, hgb, hgh, _, hcm, hcs, htk⟩⟩ := hown
  · omega
  have G := Lib.hid (And.intro hgb (And.intro hgh htk))
  have HB := Lib.hid hbel
  clear hgb hgh htk hbel hcm hcs
  go_wp2
  go_ret
  obtain ⟨hgb, hgh, htk⟩ := G.out
  have hsz := HB.out.size
  have hgl := (Array.getElem?_eq_some_iff.1 hgh).1
  refine ⟨w1.heap.size + 1, rfl, ⟨g, w1.heap.size, cp, 0, cur, .slice none 0 0, [], by omega, hgb, by omega, ?_, ?_, ?_, ?_, rfl, World.ownsRow_nil _ _ _ _, by intro k hk; cases hk⟩, ?_⟩
  · have := heap_alloc_new (w1.alloc (.map #[] 0)) (.cells #[.slice (some ⟨g, 0, none⟩) 1 cp, .map (some w1.heap.size), .slice none 0 0, .int .i64 0] 44)
    simpa using this
  · exact (Below.heap_alloc _ _ g (by simp; omega)).trans ((Below.heap_alloc _ _ g hgl).trans hgh)
  · have := congrArg (fun l => l[0]?) htk
    simp only [List.getElem?_take] at this
    simpa [zOf] using this
  · exact (Below.heap_alloc _ _ w1.heap.size (by simp)).trans (heap_alloc_new w1 _)
  · exact (HB.out.alloc hsz _).alloc (by simp; omega) _

theorem places_one (c : Cfg) (S : Nat → Prop) (F : Nat) (st : FSt) (w : World) (h : Fl w S F c st) :
    Calls Try.prog 7 #[.pointer (some ⟨F, 0, none⟩)] w fun e w' => ∃ g cp, e = .returned (.slice (some ⟨g, 0, none⟩) 1 cp) ∧ w'.cell? ⟨g, 0, none⟩ = some (.complex .f64 (zOf c st.ent).1 (zOf c st.ent).2) ∧ w.heap.size ≤ g ∧ g < w'.heap.size ∧ Below w.heap.size w w' := by
  obtain ⟨P, M, cap, clock, pc, lv, ents, h1, h2, h3, hF, hP, hpc, hM, hE, hl, hlS⟩ := h
  have c0 : w.cell? ⟨F, 0, none⟩ = some (.slice (some ⟨P, 0, none⟩) 1 cap) := by rw [cell_at hF]; rfl
  have cz : w.cell? ⟨P, 0, none⟩ = some (.complex .f64 (zOf c st.ent).1 (zOf c st.ent).2) := by rw [cell_at hP]; exact hpc
  have q1 : ∀ j u, ([.complex .f64 (zOf c st.ent).1 (zOf c st.ent).2] : List Value)[j]? = some u → w.cell? ((⟨P, 0, none⟩ : Addr).add j) = some u := by
    intro j u hj
    match j with
    | 0 => simp at hj; subst hj; exact cz
    | j + 1 => simp at hj
  have q2 : ∀ u ∈ ([.complex .f64 (zOf c st.ent).1 (zOf c st.ent).2] : List Value), u.oneCell' = true := by intro u hu; simp at hu; subst hu; rfl
  have Q1 := Lib.hid q1
  have Q2 := Lib.hid q2
  clear q1 q2 hF hP hpc hM hE hl hlS
  go_enter Try.func7, Try.ntmps7
  go_wp2_with fail
  refine (clone_cx ⟨P, 0, none⟩ 1 cap [.complex .f64 (zOf c st.ent).1 (zOf c st.ent).2] rfl _ (by omega) Q1.out Q2.out).mono ?_
  rintro e w1 ⟨v, rfl, hown, hbel⟩
  obtain ⟨_, ⟨_, h0⟩ | ⟨g, cp, cur, rfl, hgb, hgh, _, hcm, hcs, htk⟩⟩ := hown
  · omega
  have G := Lib.hid (And.intro hgb (And.intro hgh htk))
  have HB := Lib.hid hbel
  clear hgb hgh htk hbel hcm hcs
  go_wp2
  go_ret
  obtain ⟨hgb, hgh, htk⟩ := G.out
  refine ⟨g, cp, rfl, ?_, hgb, (Array.getElem?_eq_some_iff.1 hgh).1, HB.out⟩
  rw [cell_at hgh]
  have := congrArg (fun l => l[0]?) htk
  simp only [List.getElem?_take] at this
  simpa using this

theorem changes_one (c : Cfg) (S : Nat → Prop) (F : Nat) (st : FSt) (w : World) (h : Fl w S F c st) :
    Calls Try.prog 8 #[.pointer (some ⟨F, 0, none⟩)] w fun e w' => e = .returned (.int .i64 st.ch) ∧ w = w' := by
  obtain ⟨P, M, cap, clock, pc, lv, ents, h1, h2, h3, hF, hP, hpc, hM, hE, hl, hlS⟩ := h
  have c3 : w.cell? ⟨F, 3, none⟩ = some (.int .i64 st.ch) := by rw [cell_at hF]; rfl
  clear hF hP hpc hM hE hl hlS
  go_enter Try.func8, Try.ntmps8
  go_wp2
  go_ret
  exact ⟨rfl, rfl⟩

theorem key_dead (c : Cfg) (S : Nat → Prop) (F : Nat) (st : FSt) (hst : st.ent = some true) (w : World) (h : Fl w S F c st) :
    Calls Try.prog 10 #[.pointer (some ⟨F, 0, none⟩), .int .i64 c.k] w fun e w' => e = .returned (.tuple #[.bool false, .bool true]) ∧ ∃ n, w' = w.drewN n := by
  obtain ⟨P, M, cap, clock, pc, lv, ents, h1, h2, h3, hF, hP, hpc, hM, hE, hl, hlS⟩ := h
  rw [hst] at hE
  obtain ⟨E, born, e0, e1, e2, e3, hBE, rfl, hEh, _⟩ := hE
  exact key_some F M E 0 clock c.k true _ w (by rw [cell_at hF]; rfl) hM (lk_one _ _ _) (by rw [cell_at hEh]; rfl)

def callSt (st : FSt) (u : Bool) (fate : Int) : FSt :=
  if fate = 1 ∨ fate = 2 ∨ fate = 3 then st else if fate = 6 then { st with late := st.late ++ [u] } else if fate = 5 then doSt (doSt st u) u else doSt st u
def callE (st : FSt) (u : Bool) (fate : Int) : Int :=
  if fate = 1 then 60 else if fate = 2 then 61 else if fate = 3 ∨ fate = 4 ∨ fate = 6 then 62 else if fate = 5 then doE (doSt st u) u else doE st u

theorem call_any (c : Cfg) (ok : CfgOk c) (u : Bool) (so : SumOk (ordS c u)) (S : Nat → Prop) (F : Nat) (st : FSt) (fate : Int) (hlen : st.late.length ≤ 1000) (hc0 : 0 ≤ st.ch) (hc1 : st.ch ≤ 998) (w : World) (hS : ∀ i, w.heap.size ≤ i → S i) (h : Fl w S F c st) :
    Calls Try.prog 6 #[.pointer (some ⟨F, 0, none⟩), .agg #[.int .i64 c.k, .int .i64 0, .complex .f64 (ordS c u).1 (ordS c u).2, .bool u], .int .i64 fate] w fun e w' => e = .returned (.int .i64 (callE st u fate)) ∧ Fl w' S F c (callSt st u fate) ∧ KeepS S w w' := by
  unfold callE callSt
  by_cases h1 : fate = 1
  · simp only [h1, true_or, if_true]; exact call_c1 c u so S F st _ rfl w hS h
  by_cases h2 : fate = 2
  · simp only [h2, true_or, or_true, if_true]; exact call_c2 c u so S F st _ rfl w hS h
  by_cases h3 : fate = 3
  · simp only [h3, true_or, or_true, if_true]; exact call_c3 c u so S F st _ rfl w hS h
  by_cases h4 : fate = 4
  · simp only [h4]; exact call_c4 c ok u so S F st _ hc0 hc1 rfl w hS h
  by_cases h6 : fate = 6
  · simp only [h6]; exact call_c6 c u so S F st _ rfl hlen w hS h
  by_cases h5 : fate = 5
  · simp only [h5]; exact call_c5 c ok u so S F st _ hc0 hc1 rfl w hS h
  simp only [h1, h2, h3, h4, h5, h6, or_self, if_false]
  exact call_c0 c ok u so S F st fate hc0 hc1 ⟨h1, h2, h3, h4, h5, h6⟩ w hS h

end Go.Proofs.Ytgkebieekpkmmaa
