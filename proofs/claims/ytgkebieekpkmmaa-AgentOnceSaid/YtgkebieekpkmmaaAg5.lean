import Derived.Test.YtgkebieekpkmmaaAg4
namespace Go.Proofs.Ytgkebieekpkmmaa
open Go.RowKit

theorem Try.info29 : (Try.prog.info? 29).map (fun i => (i.zero, i.size, i.bytes)) = some (some (.agg #[.int .i64 0, .int .i64 0, .complex .f64 0 0, .bool false]), 4, 40) := by kernel_rfl

theorem step_append_any {P : Program} {ops : Array Oper} {o : Oper} {a : Act} {Q : Exit → Act → World → Prop} {K : Act → World → Prop} {E : Prop} {W : World} (base : Nat) (hgd : o.guard = none) (s x : Operand) (t e : TypeId) (z : Value) (size bytes : Nat)
    (ho : o.op = .call { callee := .builtin .append, args := #[s, x], argTypes := #[t, t] })
    (ht : P.underlying t = some (.slice e)) (hinfo : (P.info? e).map (fun i => (i.zero, i.size, i.bytes)) = some (some z, size, bytes)) (hz : z.cells.size = size) (hs0 : 0 < size) (hb0 : 0 < bytes)
    (v : Value) (n : Nat) (xs ys : List Value) (hs : a.eval s = v) (ad : Addr) (m c : Nat) (hx : a.eval x = .slice (some ad) m c) (hys : ys.length = m * size) (hnews : ∀ j u, ys[j]? = some u → W.cell? (ad.add j) = some u) (h1 : ∀ u ∈ ys, u.oneCell' = true)
    (HO : W.ownsRow base e size v n xs) (hbase : base ≤ W.heap.size) (hl : (n + m) * bytes ≤ 140737488355328)
    (h : ∀ v1 w1, w1.ownsRow base e size v1 (n + m) (xs ++ ys) → W.grownBy w1 v.ownBlock → (v1.ownBlock = v.ownBlock ∨ v1.ownBlock = some W.heap.size) → K (a.put o.dst v1) w1) :
    if Region.wanted o (yielded ops a.tmps) = true then Oper.wp P o a W K Q else E := by
  obtain ⟨i0, hi, hzz⟩ := Option.map_eq_some_iff.1 hinfo
  simp only [Prod.mk.injEq] at hzz
  obtain ⟨hz0, hz1, hz2⟩ := hzz
  have hlen : n + m ≤ 140737488355328 := Nat.le_trans (Nat.le_mul_of_pos_right _ hb0) hl
  rw [if_pos (by simp [Region.wanted, hgd])]
  obtain ⟨v1, w1, hr, hown, hg, _, hat⟩ := run_append_own_at (P := P) W base t o.type e i0 z size bytes ht hi hz0 hz1 hz2 hz hs0 v n xs HO ad m c ys hys hnews h1 (by simp only [maxLen]; omega) hl hbase
  unfold Oper.wp execOp
  simp only [ho, resolve, invoke, builtin, Sem.run_bind, Sem.run_pure, Result.andThen_ok, List.map_toArray, List.map_cons, List.map_nil, hs, hx, hr]
  exact h v1 w1 hown hg hat

theorem below3 (w : World) (o o' : Obj) (n : Nat) (o'' : Obj) : Below w.heap.size w ((((w.alloc o).alloc o').drewN n).alloc o'') :=
  (((Below.refl _ _).alloc (Nat.le_refl _) o).alloc (by simp) o').trans (((below_drewN' _ n).alloc (by simp; omega) o''))

theorem Fl.late_set {w X w1 : World} {S : Nat → Prop} {F P M cap clock : Nat} {pc : Array Value} {lv v1 : Value} {ents : List (Int × Value × Nat)} {c : Cfg} {st : FSt} {u : Bool} (h1 : S F) (h2 : S P) (h3 : S M)
    (HH : w.heap[F]? = some (.cells #[.slice (some ⟨P, 0, none⟩) 1 cap, .map (some M), lv, .int .i64 st.ch] 44 (0, 0)) ∧
      w.heap[P]? = some (.cells pc 26 (0, 0)) ∧ pc[0]? = some (.complex .f64 (zOf c st.ent).1 (zOf c st.ent).2) ∧
      w.heap[M]? = some (.map (ents.map mkEnt).toArray clock) ∧ EntOk w S c ents st.ent ∧ w.ownsRow 0 29 4 lv st.late.length (lateCells c st.late) ∧ (∀ k, lv.ownBlock = some k → S k))
    (hX : Below w.heap.size w X) (hg : X.grownBy w1 lv.ownBlock)
    (hown : w1.ownsRow 0 29 4 v1 (st.late.length + 1) (lateCells c st.late ++ [.int .i64 c.k, .int .i64 0, .complex .f64 (ordS c u).1 (ordS c u).2, .bool u]))
    (hat : v1.ownBlock = lv.ownBlock ∨ v1.ownBlock = some X.heap.size) (hS : ∀ i, w.heap.size ≤ i → S i) :
    Fl (w1.setCell ⟨F, 2, none⟩ v1) S F c { st with late := st.late ++ [u] } ∧ KeepS S w (w1.setCell ⟨F, 2, none⟩ v1) := by
  obtain ⟨hF, hP, hpc, hM, hE, hl, hlS⟩ := HH
  have keep : ∀ i, i < w.heap.size → some i ≠ lv.ownBlock → w1.heap[i]? = w.heap[i]? := fun i hi hn =>
    (hg.block i (Nat.lt_of_lt_of_le hi hX.size) hn).trans (hX.block i hi)
  have ne : ∀ {i t : Nat} {cs : Array Value} {fz : Nat × Nat}, w.heap[i]? = some (.cells cs t fz) → t ≠ 29 → some i ≠ lv.ownBlock := fun h ht he => by
    obtain ⟨cs, hcs⟩ := own_block hl _ he.symm
    exact ne_types h hcs ht rfl
  have lt : ∀ {i : Nat} {o : Obj}, w.heap[i]? = some o → i < w.heap.size := fun h => (Array.getElem?_eq_some_iff.1 h).1
  have kF := (keep F (lt hF) (ne hF (by decide))).trans hF
  have kP := (keep P (lt hP) (ne hP (by decide))).trans hP
  have nM : some M ≠ lv.ownBlock := fun he => by
    obtain ⟨cs, hcs⟩ := own_block hl _ he.symm
    exact ne_obj hcs hM (by intro _ _ _ h; cases h) rfl
  have kM := (keep M (lt hM) nM).trans hM
  have nFP : F ≠ P := ne_types hF hP (by decide)
  have nFM : F ≠ M := ne_obj hF hM (by intro _ _ _ h; cases h)
  have hsame : lateCells c (st.late ++ [u]) = lateCells c st.late ++ [.int .i64 c.k, .int .i64 0, .complex .f64 (ordS c u).1 (ordS c u).2, .bool u] := by
    cases u <;> simp [lateCells, ordCells, oCells, uCells, ordS]
  have hv : ∀ k, v1.ownBlock = some k → S k := fun k hk => by
    rcases hat with hat | hat
    · exact hlS k (hat ▸ hk)
    · rw [hat] at hk; injection hk with hk; exact hS k (by have := hX.size; omega)
  refine ⟨⟨P, M, cap, clock, pc, v1, ents, h1, h2, h3, ?_, ?_, hpc, ?_, ?_, ?_, hv⟩, ?_⟩
  · exact heap_set_same kF 2 v1
  · exact (Below.heap_setCell _ _ _ _ nFP.symm).trans kP
  · exact (Below.heap_setCell _ _ _ _ nFM.symm).trans kM
  · cases hst : st.ent with
    | none => rw [hst] at hE; exact hE
    | some d =>
      rw [hst] at hE
      obtain ⟨E, born, c0, c1, c2, c3, hSE, he, hh, hd⟩ := hE
      exact ⟨E, born, c0, c1, c2, c3, hSE, he, (Below.heap_setCell _ _ _ _ (ne_types hF hh (by decide)).symm).trans ((keep E (lt hh) (ne hh (by decide))).trans hh), hd⟩
  · rw [hsame]
    simp only [List.length_append, List.length_singleton]
    refine own_moved hown fun k hk => ?_
    obtain ⟨cs, hcs⟩ := own_block hown k hk
    exact Below.heap_setCell _ _ _ _ (ne_types hcs kF (by decide))
  · exact ((KeepS.of_below hX).grown hg hlS).setCell (p := ⟨F, 2, none⟩) h1 v1

theorem call_c6 (c : Cfg) (u : Bool) (so : SumOk (ordS c u)) (S : Nat → Prop) (F : Nat) (st : FSt) (fate : Int) (hf : fate = 6) (hlen : st.late.length ≤ 1000) (w : World) (hS : ∀ i, w.heap.size ≤ i → S i) (h : Fl w S F c st) :
    Calls Try.prog 6 #[.pointer (some ⟨F, 0, none⟩), .agg #[.int .i64 c.k, .int .i64 0, .complex .f64 (ordS c u).1 (ordS c u).2, .bool u], .int .i64 fate] w fun e w' => e = .returned (.int .i64 62) ∧ Fl w' S F c { st with late := st.late ++ [u] } ∧ KeepS S w w' := by
  have H := Lib.hid h
  obtain ⟨P, M, cap, clock, pc, lv, ents, h1, h2, h3, hF, hP, hpc, hM, hE, hl, hlS⟩ := h
  have c0 : w.cell? ⟨F, 0, none⟩ = some (.slice (some ⟨P, 0, none⟩) 1 cap) := by rw [cell_at hF]; rfl
  have c2 : w.cell? ⟨F, 2, none⟩ = some lv := by rw [cell_at hF]; rfl
  have c0' := fun o o' => pw_cell_alloc _ o' _ (pw_cell_alloc w o _ c0)
  have c2' := fun o o' => pw_cell_alloc _ o' _ (pw_cell_alloc w o _ c2)
  have c2'' := fun o o' n o'' => pw_cell_alloc (((w.alloc o).alloc o').drewN n) o'' _ (c2' o o')
  have t1 : (fate == 1) = false := by simp [hf]
  have t2 : (fate == 2) = false := by simp [hf]
  have t4 : (fate == 4) = false := by simp [hf]
  have t3 : (fate == 3) = false := by simp [hf]
  have t6 : (fate == 6) = true := by simp [hf]
  have t5 : (fate == 5) = false := by simp [hf]
  have A1 : ∀ (o o' : Obj) (n : Nat) (j : Nat) (u' : Value), ([.int .i64 c.k, .int .i64 0, .complex .f64 (ordS c u).1 (ordS c u).2, .bool u] : List Value)[j]? = some u' →
      ((((w.alloc o).alloc o').drewN n).alloc (.cells #[.int .i64 c.k, .int .i64 0, .complex .f64 (ordS c u).1 (ordS c u).2, .bool u] 29)).cell? ((⟨w.heap.size + 2, 0, none⟩ : Addr).add j) = some u' := by
    intro o o' n j u' hj
    have hb := heap_alloc_new (((w.alloc o).alloc o').drewN n) (.cells #[.int .i64 c.k, .int .i64 0, .complex .f64 (ordS c u).1 (ordS c u).2, .bool u] 29)
    have hsz : (((w.alloc o).alloc o').drewN n).heap.size = w.heap.size + 2 := by simp
    rw [hsz] at hb
    rw [show (⟨w.heap.size + 2, 0, none⟩ : Addr).add j = ⟨w.heap.size + 2, j, none⟩ by unfold Addr.add; split <;> simp_all, cell_at hb]
    simpa using hj
  have A2 := Lib.hid (show ∀ u' ∈ ([.int .i64 c.k, .int .i64 0, .complex .f64 (ordS c u).1 (ordS c u).2, .bool u] : List Value), u'.oneCell' = true by
    intro u' hu'
    simp at hu'
    rcases hu' with rfl | rfl | rfl | rfl <;> rfl)
  have A3 := fun o o' n o'' => Lib.hid (show ((((w.alloc o).alloc o').drewN n).alloc o'').ownsRow 0 29 4 lv st.late.length (lateCells c st.late) from World.ownsRow.alloc (w := ((w.alloc o).alloc o').drewN n) ((hl.alloc o).alloc o') o'')
  have hFl := (Array.getElem?_eq_some_iff.1 hF).1
  have nFl : some F ≠ lv.ownBlock := fun he => by
    obtain ⟨cs, hcs⟩ := own_block hl F he.symm
    exact ne_types hF hcs (by decide) rfl
  have A4 : ∀ {o o' : Obj} {n : Nat} {o'' : Obj} (w1 : World) (row : Option Nat), ((((w.alloc o).alloc o').drewN n).alloc o'').grownBy w1 row → row = lv.ownBlock → w1.cell? ⟨F, 2, none⟩ = some lv ∧ w1.frozen? ⟨F, 2, none⟩ = false := by
    intro o o' n o'' w1 row hg hr
    have hb : w1.heap[F]? = w.heap[F]? := (hg.block F (by simp; omega) (by rw [hr]; exact nFl)).trans ((Below.heap_alloc _ _ F (by simp; omega)).trans ((Below.heap_alloc _ _ F (by simp; omega)).trans (Below.heap_alloc _ _ F hFl)))
    rw [hF] at hb
    exact ⟨by rw [cell_at hb]; rfl, frozen_at hb 2⟩
  have A1 := fun o o' n => Lib.hid (A1 o o' n)
  have A4 := @Lib.hid _ @A4
  clear hFl nFl
  have HH := Lib.hid (And.intro hF (And.intro hP (And.intro hpc (And.intro hM (And.intro hE (And.intro hl hlS))))))
  clear hF hP hpc hM hE hl hf hlS
  go_enter Try.func6, Try.ntmps6
  go_wp2_with (go_at_call 13; refine (sum_ok (ordS c u) so _ _ (by go_simp)).mono ?_; rintro e w' ⟨⟨s1, s2, rfl⟩, rfl⟩)
  go_quiet (fail)
  go_wp2
  go_region_law (refine step_append_any 0 rfl (.tmp 53) (.tmp 55) 42 29 _ 4 40 rfl Try.underlying42 Try.info29 rfl (by decide) (by decide) lv st.late.length (lateCells c st.late) [.int .i64 c.k, .int .i64 0, .complex .f64 (ordS c u).1 (ordS c u).2, .bool u] (by simp [Act.eval]) ⟨w.heap.size + 2, 0, none⟩ 1 1 (by simp [Act.eval]) rfl (by exact (A1 _ _ _).out) (by exact A2.out) (by exact (A3 _ _ _ _).out) (Nat.zero_le _) (by omega) ?_; rintro v1 w1 hown hgr hat; obtain ⟨ad, cp, rfl⟩ := YtgkebieekpkmmaaW.PrintWords.own_slice hown; obtain ⟨d1, d2⟩ := A4.out _ _ hgr rfl; have hown := Lib.hid hown; have hgr := Lib.hid hgr; have hat := Lib.hid hat)
  all_goals
    go_wp2
    go_ret
    refine ⟨rfl, ?_⟩
    exact Fl.late_set h1 h2 h3 HH.out (by first | exact below3 w _ _ _ _) hgr.out hown.out hat.out hS

end Go.Proofs.Ytgkebieekpkmmaa
