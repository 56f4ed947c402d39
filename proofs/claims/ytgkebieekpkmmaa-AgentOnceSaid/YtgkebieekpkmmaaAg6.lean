import Derived.Test.YtgkebieekpkmmaaAg5
namespace Go.Proofs.Ytgkebieekpkmmaa
open Go.RowKit

/-- clear of one element of several cells, in a row of one's own -/
theorem run_clear_one (P : Program) (w : World) (t e ty : TypeId) (z : Value) (ht : P.underlying t = some (.slice e)) (hv : ∀ w, (zeroValue e).run P w = .ok z w) (hz : ∀ v ∈ z.cells.toList, v.oneCell' = true)
    (g off c : Nat) (cur : Array Value) (hg : w.heap[g]? = some (.cells cur e (0, 0))) (hl : off + z.cells.size ≤ cur.size) :
    (Builtin.clear_ #[t] ty #[.slice (some ⟨g, off, none⟩) 1 c]).run P w = .ok (.tuple #[]) (w.setRow g (cur.toList.take off ++ z.cells.toList ++ cur.toList.drop (off + z.cells.size)).toArray) := by
  have hzc : (Builtin.zeroCells z.cells 1).toList = z.cells.toList := by
    simp only [Builtin.zeroCells, Nat.one_mul, Array.toList_map, Array.toList_range]
    apply List.ext_getElem
    · simp
    · intro i h1 h2
      have hi : i < z.cells.size := by simpa using h2
      simp [Nat.mod_eq_of_lt hi, hi]
  have hst := run_storeCells_at (P := P) g off e z.cells.toList 0 cur w hg (by simpa using hl) hz
  simp only [Nat.add_zero, Array.length_toList] at hst
  simp [Builtin.clear_, run_underlying ht, hv, hzc, hst]

theorem wpList_clear_one {P : Program} {w : World} {ops : Array Oper} {rest : List Oper} {o : Oper} {a : Act} {Q : Exit → Act → World → Prop} (hgd : o.guard = none) (x : Operand) (t e : TypeId) (z : Value)
    (hop : o.op = .call { callee := .builtin .clear, args := #[x], argTypes := #[t] }) (ht : P.underlying t = some (.slice e)) (hv : ∀ w, (zeroValue e).run P w = .ok z w) (hz : ∀ v ∈ z.cells.toList, v.oneCell' = true)
    (g off c : Nat) (cur : Array Value) (hx : a.eval x = .slice (some ⟨g, off, none⟩) 1 c) (hg : w.heap[g]? = some (.cells cur e (0, 0))) (hl : off + z.cells.size ≤ cur.size)
    (h : ∀ w1 cur1, w1.heap[g]? = some (.cells cur1 e (0, 0)) → cur1.toList = cur.toList.take off ++ z.cells.toList ++ cur.toList.drop (off + z.cells.size) → w.grownBy w1 (some g) → wpList P ops Q rest (a.put o.dst (.tuple #[])) w1) : wpList P ops Q (o :: rest) a w := by
  refine wpList_plain hgd fun K hK => ?_
  have hr := run_clear_one P w t e o.type z ht hv hz g off c cur hg hl
  unfold Oper.wp execOp
  simp only [hop, resolve, invoke, builtin, Sem.run_bind, Sem.run_pure, Result.andThen_ok, List.map_toArray, List.map_cons, List.map_nil, hx, hr]
  exact hK _ _ (h _ _ (setRow_heap w g cur _ e (0, 0) hg) rfl ⟨rfl, rfl, rfl, by simp, fun k _ hk => setRow_other w g k _ (fun e => hk (by rw [e]))⟩)

theorem step_append_row {P : Program} {ops : Array Oper} {o : Oper} {a : Act} {Q : Exit → Act → World → Prop} {K : Act → World → Prop} {E : Prop} {W : World} (hgd : o.guard = none) (s x : Operand) (t e : TypeId) (size bytes : Nat) (z : Value)
    (ho : o.op = .call { callee := .builtin .append, args := #[s, x], argTypes := #[t, t] })
    (ht : P.underlying t = some (.slice e)) (hinfo : (P.info? e).map (fun i => (i.zero, i.size, i.bytes)) = some (some z, size, bytes))
    (g n cap : Nat) (hs : a.eval s = .slice (some ⟨g, 0, none⟩) n cap) (ao : Option Addr) (m c : Nat) (ys : List Value) (hx : a.eval x = .slice ao m c) (hys : ys.length = m * size)
    (ad : Addr) (hao : ao = some ad) (hnews : ∀ j u, ys[j]? = some u → W.cell? (ad.add j) = some u) (h1 : ∀ u ∈ ys, u.oneCell' = true)
    (cur : Array Value) (hg : W.heap[g]? = some (.cells cur e (0, 0))) (hroom : n + m ≤ cap) (hfit : n * size + ys.length ≤ cur.size)
    (h : ∀ w1 cur1, w1.heap[g]? = some (.cells cur1 e (0, 0)) → cur1.toList = cur.toList.take (n * size) ++ ys ++ cur.toList.drop (n * size + ys.length) → W.grownBy w1 (some g) → K (a.put o.dst (.slice (some ⟨g, 0, none⟩) (n + m) cap)) w1) :
    if Region.wanted o (yielded ops a.tmps) = true then Oper.wp P o a W K Q else E := by
  obtain ⟨i0, hi, hzz⟩ := Option.map_eq_some_iff.1 hinfo
  simp only [Prod.mk.injEq] at hzz
  obtain ⟨hz0, hz1, hz2⟩ := hzz
  subst hz1
  subst hao
  rw [if_pos (by simp [Region.wanted, hgd])]
  have hr := run_append_room (P := P) W t o.type e i0 ht hi g n cap cur hg ad m c ys hys hnews h1 hroom hfit
  unfold Oper.wp execOp
  simp only [ho, resolve, invoke, builtin, Sem.run_bind, Sem.run_pure, Result.andThen_ok, List.map_toArray, List.map_cons, List.map_nil, hs, hx, hr]
  exact h _ _ (setRow_heap W g cur _ e (0, 0) hg) rfl ⟨rfl, rfl, rfl, by simp, fun k _ hk => setRow_other W g k _ (fun e => hk (by rw [e]))⟩

theorem delete_first (g m cap : Nat) (hm : m ≤ 1000) (hcap : m + 1 ≤ cap) (hmx : cap ≤ 9223372036854775807) (cur : Array Value) (w : World) (hg : w.heap[g]? = some (.cells cur 29 (0, 0))) (hsz : cur.size = cap * 4) (h1 : ∀ v ∈ cur.toList.take ((m + 1) * 4), v.oneCell' = true) :
    Calls Try.prog 15 #[.slice (some ⟨g, 0, none⟩) (m + 1) cap, .int .i64 0, .int .i64 1] w fun e w' => e = .returned (.slice (some ⟨g, 0, none⟩) m cap) ∧
      (∃ cur', w'.heap[g]? = some (.cells cur' 29 (0, 0)) ∧ cur'.size = cap * 4 ∧ cur'.toList.take (m * 4) = (cur.toList.drop 4).take (m * 4)) ∧ w.grownBy w' (some g) := by
  have hb1 : (1 : Int) ≤ (m : Int) + 1 := by omega
  have A1 : ∀ j u, ((cur.toList.drop 4).take (m * 4))[j]? = some u → w.drew.cell? ((⟨g, 4, none⟩ : Addr).add j) = some u := by
    intro j u hj
    rw [show (⟨g, 4, none⟩ : Addr).add j = ⟨g, 4 + j, none⟩ by unfold Addr.add; split <;> simp_all, cell_at (w := w.drew) hg]
    rw [List.getElem?_take] at hj
    split at hj
    · simpa using hj
    · cases hj
  have A2 : ∀ u ∈ (cur.toList.drop 4).take (m * 4), u.oneCell' = true := fun u hu => h1 u (by
    have e : (cur.toList.drop 4).take (m * 4) = (cur.toList.take ((m + 1) * 4)).drop 4 := by
      rw [List.drop_take, show (m + 1) * 4 - 4 = m * 4 by omega]
    rw [e] at hu
    exact List.mem_of_mem_drop hu)
  have hlen : ((cur.toList.drop 4).take (m * 4)).length = m * 4 := by simp; omega
  have B1 := Lib.hid A1
  have B2 := Lib.hid A2
  have B3 := Lib.hid hlen
  have Hg := Lib.hid hg
  have Hsz := Lib.hid hsz
  have H1 := Lib.hid h1
  clear A1 A2 hlen hg hsz h1
  by_cases hc1 : cap = 1
  · have hm0 : m = 0 := by omega
    subst hc1
    subst hm0
    clear B1 B2 B3
    go_enter Try.func15, Try.ntmps15
    go_wp2
    go_region_law (refine step_append_row rfl (.tmp 22) (.tmp 25) 42 29 4 40 _ rfl Try.underlying42 Try.info29 g 0 1 (by simp [Act.eval, Act.put]) (some ⟨g, 0, none⟩) 0 0 [] (by simp [Act.eval, Act.put]) rfl ⟨g, 0, none⟩ rfl (by intro j u hj; cases hj) (by intro u hu; cases hu) cur Hg.out (by omega) (by simp) ?_; rintro w1 cur1 g1 g2 g3; have G1 := Lib.hid g1; have G2 := Lib.hid g2; have G3 := Lib.hid g3; clear g1 g2 g3)
    go_wp2
    have hc1sz : cur1.size = 1 * 4 := by
      rw [← Array.length_toList, G2.out]
      simp
      have := Hsz.out
      omega
    have hcl := run_clear_one Try.prog w1 42 29 0 (.agg #[.int .i64 0, .int .i64 0, .complex .f64 0 0, .bool false]) Try.underlying42 (fun _ => by kernel_rfl) (by intro v hv; simp [Value.cells] at hv; rcases hv with rfl | rfl | rfl | rfl <;> rfl) g 0 1 cur1 G1.out (by simp [Value.cells]; omega)
    rw [hcl]
    clear hcl
    have hrow := setRow_heap w1 g cur1 (cur1.toList.take 0 ++ (Value.agg #[.int .i64 0, .int .i64 0, .complex .f64 0 0, .bool false]).cells.toList ++ cur1.toList.drop (0 + (Value.agg #[.int .i64 0, .int .i64 0, .complex .f64 0 0, .bool false]).cells.size)).toArray 29 (0, 0) G1.out
    have hoth := fun k => setRow_other w1 g k (cur1.toList.take 0 ++ (Value.agg #[.int .i64 0, .int .i64 0, .complex .f64 0 0, .bool false]).cells.toList ++ cur1.toList.drop (0 + (Value.agg #[.int .i64 0, .int .i64 0, .complex .f64 0 0, .bool false]).cells.size)).toArray
    have hsw := size_setRow w1 g (cur1.toList.take 0 ++ (Value.agg #[.int .i64 0, .int .i64 0, .complex .f64 0 0, .bool false]).cells.toList ++ cur1.toList.drop (0 + (Value.agg #[.int .i64 0, .int .i64 0, .complex .f64 0 0, .bool false]).cells.size)).toArray
    have hw2 : ∃ w2, w2 = w1.setRow g (cur1.toList.take 0 ++ (Value.agg #[.int .i64 0, .int .i64 0, .complex .f64 0 0, .bool false]).cells.toList ++ cur1.toList.drop (0 + (Value.agg #[.int .i64 0, .int .i64 0, .complex .f64 0 0, .bool false]).cells.size)).toArray := ⟨_, rfl⟩
    obtain ⟨w2, hw2⟩ := hw2
    rw [← hw2] at hrow hoth hsw ⊢
    have R1 := Lib.hid hrow
    have R2 := Lib.hid hoth
    have R3 := Lib.hid hsw
    have R4 := Lib.hid hw2
    clear hrow hoth hsw hw2
    go_wp2
    go_ret
    refine ⟨rfl, ⟨_, R1.out, ?_, ?_⟩, ?_⟩
    · simp [Value.cells, Array.length_toList]
      omega
    · simp
    · have e3 := G3.out
      refine ⟨?_, ?_, ?_, ?_, fun k hk hne => ?_⟩
      · rw [R4.out]; exact e3.os
      · rw [R4.out]; exact e3.tape
      · rw [R4.out]; exact e3.output
      · rw [R3.out]; exact e3.size
      · exact (R2.out k (by simpa using hne)).trans (e3.block k hk hne)

  · have hc1' : ¬ cap = 1 := hc1
    go_enter Try.func15, Try.ntmps15
    go_wp2
    go_region_law (refine step_append_row rfl (.tmp 22) (.tmp 25) 42 29 4 40 _ rfl Try.underlying42 Try.info29 g 0 cap (by simp [Act.eval, Act.put]) (some ⟨g, 4, none⟩) m (cap - 1) _ (by simp [Act.eval, Act.put]) B3.out ⟨g, 4, none⟩ rfl B1.out B2.out cur Hg.out (by omega) (by rw [B3.out, Hsz.out]; omega) ?_; rintro w1 cur1 g1 g2 g3; have G1 := Lib.hid g1; have G2 := Lib.hid g2; have G3 := Lib.hid g3; clear g1 g2 g3)
    go_wp2
    have hc1sz : cur1.size = cap * 4 := by
      rw [← Array.length_toList, G2.out]
      simp
      have := Hsz.out
      omega
    have hcl := run_clear_one Try.prog w1 42 29 0 (.agg #[.int .i64 0, .int .i64 0, .complex .f64 0 0, .bool false]) Try.underlying42 (fun _ => by kernel_rfl) (by intro v hv; simp [Value.cells] at hv; rcases hv with rfl | rfl | rfl | rfl <;> rfl) g (m * 4) (cap - m) cur1 G1.out (by simp [Value.cells]; omega)
    rw [hcl]
    clear hcl
    have hrow := setRow_heap w1 g cur1 (cur1.toList.take (m * 4) ++ (Value.agg #[.int .i64 0, .int .i64 0, .complex .f64 0 0, .bool false]).cells.toList ++ cur1.toList.drop (m * 4 + (Value.agg #[.int .i64 0, .int .i64 0, .complex .f64 0 0, .bool false]).cells.size)).toArray 29 (0, 0) G1.out
    have hoth := fun k => setRow_other w1 g k (cur1.toList.take (m * 4) ++ (Value.agg #[.int .i64 0, .int .i64 0, .complex .f64 0 0, .bool false]).cells.toList ++ cur1.toList.drop (m * 4 + (Value.agg #[.int .i64 0, .int .i64 0, .complex .f64 0 0, .bool false]).cells.size)).toArray
    have hsw := size_setRow w1 g (cur1.toList.take (m * 4) ++ (Value.agg #[.int .i64 0, .int .i64 0, .complex .f64 0 0, .bool false]).cells.toList ++ cur1.toList.drop (m * 4 + (Value.agg #[.int .i64 0, .int .i64 0, .complex .f64 0 0, .bool false]).cells.size)).toArray
    have hw2 : ∃ w2, w2 = w1.setRow g (cur1.toList.take (m * 4) ++ (Value.agg #[.int .i64 0, .int .i64 0, .complex .f64 0 0, .bool false]).cells.toList ++ cur1.toList.drop (m * 4 + (Value.agg #[.int .i64 0, .int .i64 0, .complex .f64 0 0, .bool false]).cells.size)).toArray := ⟨_, rfl⟩
    obtain ⟨w2, hw2⟩ := hw2
    rw [← hw2] at hrow hoth hsw ⊢
    have R1 := Lib.hid hrow
    have R2 := Lib.hid hoth
    have R3 := Lib.hid hsw
    have R4 := Lib.hid hw2
    clear hrow hoth hsw hw2
    go_wp2
    go_ret
    refine ⟨rfl, ⟨_, R1.out, ?_, ?_⟩, ?_⟩
    · simp [Value.cells, Array.length_toList]
      omega
    · simp only [Value.cells]
      rw [List.append_assoc, List.take_left' (by simp; omega), G2.out]
      simp only [Nat.zero_mul, List.take_zero, List.nil_append]
      rw [List.take_left' B3.out]
    · have e3 := G3.out
      refine ⟨?_, ?_, ?_, ?_, fun k hk hne => ?_⟩
      · rw [R4.out]; exact e3.os
      · rw [R4.out]; exact e3.tape
      · rw [R4.out]; exact e3.output
      · rw [R3.out]; exact e3.size
      · exact (R2.out k (by simpa using hne)).trans (e3.block k hk hne)

theorem ord_one (c : Cfg) (u : Bool) : ∀ v ∈ ordCells c u, v.oneCell' = true := by
  intro v hv
  cases u <;> (simp [ordCells, uCells, oCells] at hv; rcases hv with rfl | rfl | rfl | rfl <;> rfl)
theorem late_one (c : Cfg) (l : List Bool) : ∀ v ∈ lateCells c l, v.oneCell' = true := by
  intro v hv
  obtain ⟨u, _, hu⟩ := List.mem_flatMap.1 hv
  exact ord_one c u v hu

theorem deliver_nil (c : Cfg) (S : Nat → Prop) (F : Nat) (st : FSt) (hl0 : st.late = []) (w : World) (h : Fl w S F c st) :
    Calls Try.prog 9 #[.pointer (some ⟨F, 0, none⟩), .int .i64 0] w fun e w' => e = .returned (.int .i64 63) ∧ w = w' := by
  obtain ⟨P, M, cap, clock, pc, lv, ents, h1, h2, h3, hF, hP, hpc, hM, hE, hl, hlS⟩ := h
  have c2 : w.cell? ⟨F, 2, none⟩ = some lv := by rw [cell_at hF]; rfl
  obtain ⟨A, cp, rfl⟩ := YtgkebieekpkmmaaW.PrintWords.own_slice hl
  rw [hl0] at c2
  simp only [List.length_nil] at c2
  clear hF hP hpc hM hE hl hlS hl0
  go_enter Try.func9, Try.ntmps9
  go_wp2
  go_ret
  exact ⟨rfl, rfl⟩

theorem Fl.late_put {w X w1 : World} {S : Nat → Prop} {F P M cap clock : Nat} {pc : Array Value} {lv v1 : Value} {ents : List (Int × Value × Nat)} {c : Cfg} {st : FSt} {late1 : List Bool} (h1 : S F) (h2 : S P) (h3 : S M)
    (HH : w.heap[F]? = some (.cells #[.slice (some ⟨P, 0, none⟩) 1 cap, .map (some M), lv, .int .i64 st.ch] 44 (0, 0)) ∧
      w.heap[P]? = some (.cells pc 26 (0, 0)) ∧ pc[0]? = some (.complex .f64 (zOf c st.ent).1 (zOf c st.ent).2) ∧
      w.heap[M]? = some (.map (ents.map mkEnt).toArray clock) ∧ EntOk w S c ents st.ent ∧ w.ownsRow 0 29 4 lv st.late.length (lateCells c st.late) ∧ (∀ k, lv.ownBlock = some k → S k))
    (hX : Below w.heap.size w X) (hg : X.grownBy w1 lv.ownBlock)
    (hown : w1.ownsRow 0 29 4 v1 late1.length (lateCells c late1))
    (hat : v1.ownBlock = lv.ownBlock ∨ v1.ownBlock = some X.heap.size) (hS : ∀ i, w.heap.size ≤ i → S i) :
    Fl (w1.setCell ⟨F, 2, none⟩ v1) S F c { st with late := late1 } ∧ KeepS S w (w1.setCell ⟨F, 2, none⟩ v1) := by
  obtain ⟨hF, hP, hpc, hM, hE, hl, hlS⟩ := HH
  have keep : ∀ i, i < w.heap.size → some i ≠ lv.ownBlock → w1.heap[i]? = w.heap[i]? := fun i hi hn =>
    (hg.block i (Nat.lt_of_lt_of_le hi hX.size) hn).trans (hX.block i hi)
  have ne : ∀ {i t : Nat} {cs : Array Value} {fz : Nat × Nat}, w.heap[i]? = some (.cells cs t fz) → t ≠ 29 → some i ≠ lv.ownBlock := fun h ht he => by
    obtain ⟨cs, hcs⟩ := own_block hl _ he.symm
    exact ne_types h hcs ht rfl
  have lt : ∀ {i : Nat} {o : Obj}, w.heap[i]? = some o → i < w.heap.size := fun h => (Array.getElem?_eq_some_iff.1 h).1
  have kF := (keep F (lt hF) (ne hF (by decide))).trans hF
  have kP := (keep P (lt hP) (ne hP (by decide))).trans hP
  have nM : some M ≠ lv.ownBlock := fun he => by
    obtain ⟨cs, hcs⟩ := own_block hl _ he.symm
    exact ne_obj hcs hM (by intro _ _ _ h; cases h) rfl
  have kM := (keep M (lt hM) nM).trans hM
  have nFP : F ≠ P := ne_types hF hP (by decide)
  have nFM : F ≠ M := ne_obj hF hM (by intro _ _ _ h; cases h)
  have hv : ∀ k, v1.ownBlock = some k → S k := fun k hk => by
    rcases hat with hat | hat
    · exact hlS k (hat ▸ hk)
    · rw [hat] at hk; injection hk with hk; exact hS k (by have := hX.size; omega)
  refine ⟨⟨P, M, cap, clock, pc, v1, ents, h1, h2, h3, ?_, ?_, hpc, ?_, ?_, ?_, hv⟩, ?_⟩
  · exact heap_set_same kF 2 v1
  · exact (Below.heap_setCell _ _ _ _ nFP.symm).trans kP
  · exact (Below.heap_setCell _ _ _ _ nFM.symm).trans kM
  · cases hst : st.ent with
    | none => rw [hst] at hE; exact hE
    | some d =>
      rw [hst] at hE
      obtain ⟨E, born, c0, c1, c2, c3, hSE, he, hh, hd⟩ := hE
      exact ⟨E, born, c0, c1, c2, c3, hSE, he, (Below.heap_setCell _ _ _ _ (ne_types hF hh (by decide)).symm).trans ((keep E (lt hh) (ne hh (by decide))).trans hh), hd⟩
  · refine own_moved hown fun k hk => ?_
    obtain ⟨cs, hcs⟩ := own_block hown k hk
    exact Below.heap_setCell _ _ _ _ (ne_types hcs kF (by decide))
  · exact ((KeepS.of_below hX).grown hg hlS).setCell (p := ⟨F, 2, none⟩) h1 v1

end Go.Proofs.Ytgkebieekpkmmaa
