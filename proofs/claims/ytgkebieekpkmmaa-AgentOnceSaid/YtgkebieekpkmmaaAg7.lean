import Derived.Test.YtgkebieekpkmmaaAg6
namespace Go.Proofs.Ytgkebieekpkmmaa
open Go.RowKit

theorem deliver_one (c : Cfg) (ok : CfgOk c) (S : Nat → Prop) (F : Nat) (st : FSt) (u : Bool) (rest : List Bool) (hl0 : st.late = u :: rest) (hlen : st.late.length ≤ 1000) (hc0 : 0 ≤ st.ch) (hc1 : st.ch ≤ 999) (w : World) (hS : ∀ i, w.heap.size ≤ i → S i) (h : Fl w S F c st) :
    Calls Try.prog 9 #[.pointer (some ⟨F, 0, none⟩), .int .i64 0] w fun e w' => e = .returned (.int .i64 (doE { st with late := rest } u)) ∧ Fl w' S F c (doSt { st with late := rest } u) ∧ KeepS S w w' := by
  have H := Lib.hid h
  obtain ⟨P, M, cap, clock, pc, lv, ents, h1, h2, h3, hF, hP, hpc, hM, hE, hl, hlS⟩ := h
  have hn : st.late.length = rest.length + 1 := by rw [hl0]; rfl
  obtain ⟨hxl, hcase⟩ := hl
  rcases hcase with ⟨_, hz⟩ | ⟨g, lc, cur, rfl, _, hg, hnc, hcm, hcs, htake⟩
  · omega
  rw [hn] at hnc htake hF
  have hSg : S g := hlS g rfl
  have hlate : lateCells c st.late = ordCells c u ++ lateCells c rest := by rw [hl0]; rfl
  rw [hlate] at htake
  have hul : (ordCells c u).length = 4 := by cases u <;> rfl
  have hcell : ∀ j, j < 4 → w.cell? ⟨g, j, none⟩ = (ordCells c u)[j]? := by
    intro j hj
    rw [cell_at hg]
    have := congrArg (fun l => l[j]?) htake
    simp only [List.getElem?_take] at this
    rw [if_pos (by omega), List.getElem?_append_left (by omega)] at this
    simpa using this
  have e0 : w.cell? ⟨g, 0, none⟩ = some (.int .i64 c.k) := by rw [hcell 0 (by omega)]; cases u <;> rfl
  have e1 : w.cell? ⟨g, 1, none⟩ = some (.int .i64 0) := by rw [hcell 1 (by omega)]; cases u <;> rfl
  have e2 : w.cell? ⟨g, 2, none⟩ = some (.complex .f64 (ordS c u).1 (ordS c u).2) := by rw [hcell 2 (by omega)]; cases u <;> rfl
  have e3 : w.cell? ⟨g, 3, none⟩ = some (.bool u) := by rw [hcell 3 (by omega)]; cases u <;> rfl
  have c2 : w.cell? ⟨F, 2, none⟩ = some (.slice (some ⟨g, 0, none⟩) (rest.length + 1) lc) := by rw [cell_at hF]; rfl
  have c2' := fun o => pw_cell_alloc w o _ c2
  have hb : rest.length ≤ 999 := by omega
  have hone : ∀ v ∈ cur.toList.take ((rest.length + 1) * 4), v.oneCell' = true := by
    rw [htake]
    intro v hv
    rcases List.mem_append.1 hv with hv | hv
    · exact ord_one c u v hv
    · exact late_one c rest v hv
  have HH := Lib.hid (And.intro hF (And.intro hP (And.intro hpc (And.intro hM (And.intro hE (And.intro hg (And.intro hnc (And.intro hcm (And.intro hcs (And.intro htake (And.intro hone (And.intro hul (And.intro hn hl0)))))))))))))
  have hxl := Lib.hid hxl
  have hlS := Lib.hid hlS
  clear hF hP hpc hM hE hg hnc hcm hcs htake hn hlate hul hcell hone hl0
  have k2 := fun (w : World) (a : Addr) => run_store_cx Try.prog w a (ordS c u).1 (ordS c u).2 .plain
  have hlt : decide ((rest.length : Int) + 1 ≤ 0) = false := by simp
  go_enter Try.func9, Try.ntmps9
  go_wp2_with fail
  obtain ⟨hF, hP, hpc, hM, hE, hg, hnc, hcm, hcs, htake, hone, hul, hn, hl0⟩ := HH.out
  have hgl := (Array.getElem?_eq_some_iff.1 hg).1
  refine (delete_first g rest.length lc (by omega) hnc (by simp only [maxLen] at hcm; omega) cur _ (by exact (Below.heap_alloc w _ g hgl).trans hg) hcs hone).mono ?_
  rintro e w1 ⟨rfl, ⟨cur', q1, q2, q3⟩, hgr⟩
  have hFl := (Array.getElem?_eq_some_iff.1 hF).1
  have nFg : F ≠ g := ne_types hF hg (by decide)
  have gF : w1.heap[F]? = _ := (hgr.block F (by simp; omega) (by simpa using nFg)).trans ((Below.heap_alloc w _ F hFl).trans hF)
  have d2 : w1.cell? ⟨F, 2, none⟩ = some (.slice (some ⟨g, 0, none⟩) (rest.length + 1) lc) := by rw [cell_at gF]; rfl
  have d2f := frozen_at gF 2
  have hv1 : w1.ownsRow 0 29 4 (.slice (some ⟨g, 0, none⟩) rest.length lc) rest.length (lateCells c rest) := by
    have hll : (lateCells c rest).length = rest.length * 4 := by
      have hx : (cur.toList.take ((rest.length + 1) * 4)).length = (rest.length + 1) * 4 := by simp; omega
      rw [htake] at hx
      simp [hul] at hx
      omega
    refine ⟨hll, .inr ⟨g, lc, cur', rfl, Nat.zero_le _, q1, by omega, hcm, q2, ?_⟩⟩
    rw [q3, show (cur.toList.drop 4).take (rest.length * 4) = (cur.toList.take ((rest.length + 1) * 4)).drop 4 by rw [List.drop_take, show (rest.length + 1) * 4 - 4 = rest.length * 4 by omega], htake]
    rw [List.drop_left' hul]
  have hfl := Fl.late_put (lv := .slice (some ⟨g, 0, none⟩) (rest.length + 1) lc) (late1 := rest) h1 h2 h3 (by have := H.out; exact ⟨hF, hP, hpc, hM, hE, ⟨hxl.out, .inr ⟨g, lc, cur, by rw [hn], Nat.zero_le _, hg, by omega, hcm, hcs, by rw [hn, htake, hl0]; rfl⟩⟩, hlS.out⟩)
    ((Below.refl _ _).alloc (Nat.le_refl _) _) hgr hv1 (.inl rfl) hS
  have nFN : F ≠ w.heap.size := by omega
  have nNF : w.heap.size ≠ F := by omega
  have gN : w1.heap[w.heap.size]? = _ := (hgr.block w.heap.size (by simp) (by simp; omega)).trans (heap_alloc_new w _)
  have n0 : w1.cell? ⟨w.heap.size, 0, none⟩ = some (.int .i64 c.k) := by rw [cell_at gN]; rfl
  have n1 : w1.cell? ⟨w.heap.size, 1, none⟩ = some (.int .i64 0) := by rw [cell_at gN]; rfl
  have n2 : w1.cell? ⟨w.heap.size, 2, none⟩ = some (.complex .f64 (ordS c u).1 (ordS c u).2) := by rw [cell_at gN]; rfl
  have n3 : w1.cell? ⟨w.heap.size, 3, none⟩ = some (.bool u) := by rw [cell_at gN]; rfl
  have hsz1 : w.heap.size + 1 ≤ w1.heap.size := by have := hgr.size; simpa using this
  have HF := Lib.hid hfl
  clear hF hP hpc hM hE hg hnc hcm hcs htake hone hul hn hl0 hgl q1 q2 q3 hgr hFl gF hv1 hfl gN
  go_wp2_with fail
  refine (do_ord c ok S F { st with late := rest } u hc0 hc1 _ (by intro i hi; simp [World.setCell] at hi; exact hS i (by omega)) (by exact HF.out.1)).mono ?_
  rintro e w2 ⟨rfl, hf2, hk2⟩
  go_wp2
  go_ret
  exact ⟨rfl, hf2, HF.out.2.trans hk2⟩

end Go.Proofs.Ytgkebieekpkmmaa
