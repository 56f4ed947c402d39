import Derived.Test.YtedalanhjhiehaaDoorQl
import Derived.Laws.Bits64b
set_option linter.unusedSimpArgs false
namespace Go.Proofs.YtedalanhjhiehaaDoor
open Go.RowKit
open YtedalanhjhiehaaDoorW.PrintWords (nums ReadsInt rd own_slice own_typed Kd)

theorem info82 : (Tryd.prog.info? 82).map (fun i => (i.zero, i.size, i.bytes)) = some (some (.int .u64 0), 1, 8) := by kernel_rfl
abbrev kU : Kd Int := Kd.int .u64

/-- the nodes with an edge to each one -/
def aheadStep (r : List Nat) (x : Int × Int) : List Nat := r.set x.2.toNat (r.getD x.2.toNat 0 ||| 2 ^ x.1.toNat)
def aheadN (n : Nat) (xs : List (Int × Int)) : List Nat := xs.foldl aheadStep (List.replicate n 0)
def castL (r : List Nat) : List Int := r.map fun (x : Nat) => (x : Int)
theorem castL_length (r : List Nat) : (castL r).length = r.length := by simp [castL]
theorem aheadStep_length (r : List Nat) (x : Int × Int) : (aheadStep r x).length = r.length := by simp [aheadStep]
theorem aheadN_length (n : Nat) (xs : List (Int × Int)) : (aheadN n xs).length = n := by
  have : ∀ (xs : List (Int × Int)) (r : List Nat), (xs.foldl aheadStep r).length = r.length := by
    intro xs
    induction xs with
    | nil => intro r; rfl
    | cons x xs ih => intro r; rw [List.foldl_cons, ih, aheadStep_length]
  rw [aheadN, this]; simp
theorem aheadN_snoc (n : Nat) (xs : List (Int × Int)) (x : Int × Int) : aheadN n (xs ++ [x]) = aheadStep (aheadN n xs) x := by simp [aheadN, List.foldl_append]
def Small (r : List Nat) : Prop := ∀ x ∈ r, x < 18446744073709551616
theorem small_set {r : List Nat} (h : Small r) (i : Nat) {v : Nat} (hv : v < 18446744073709551616) : Small (r.set i v) := fun x hx => by
  rcases List.mem_or_eq_of_mem_set hx with h1 | h1
  · exact h x h1
  · omega
theorem small_getD {r : List Nat} (h : Small r) (i : Nat) : r.getD i 0 < 18446744073709551616 := by
  rw [List.getD_eq_getElem?_getD]
  rcases Nat.lt_or_ge i r.length with hi | hi
  · rw [List.getElem?_eq_getElem hi]; exact h _ (List.getElem_mem hi)
  · rw [List.getElem?_eq_none hi]; decide
theorem or_small {a b : Nat} (ha : a < 18446744073709551616) (hb : b < 18446744073709551616) : a ||| b < 18446744073709551616 := by
  have : a ||| b < 2 ^ 64 := Nat.or_lt_two_pow (by simpa using ha) (by simpa using hb)
  simpa using this
theorem pow_small {a : Nat} (h : a < 64) : 2 ^ a < 18446744073709551616 := by
  have : 2 ^ a < 2 ^ 64 := Nat.pow_lt_pow_right (by decide) h
  simpa using this
theorem aheadN_small (n : Nat) (xs : List (Int × Int)) (h : ∀ x ∈ xs, 0 ≤ x.1 ∧ x.1 < 64) : Small (aheadN n xs) := by
  have key : ∀ (xs : List (Int × Int)) (r : List Nat), (∀ x ∈ xs, 0 ≤ x.1 ∧ x.1 < 64) → Small r → Small (xs.foldl aheadStep r) := by
    intro xs
    induction xs with
    | nil => intro r _ hr; exact hr
    | cons x xs ih =>
      intro r h hr
      rw [List.foldl_cons]
      have h1 := h x List.mem_cons_self
      exact ih _ (fun y hy => h y (List.mem_cons_of_mem _ hy)) (small_set hr _ (or_small (small_getD hr _) (pow_small (by omega))))
  exact key xs _ h (fun x hx => by simp at hx; omega)

theorem wrap_pow {a : Nat} (h : a < 64) : IntKind.u64.wrap ((2 : Int) ^ a) = 2 ^ a := by
  have h1 := pow_small h
  have e : (2 : Int) ^ a = ((2 ^ a : Nat) : Int) := by simp
  rw [e, IntKind.wrap_u64]
  generalize 2 ^ a = z at h1 ⊢
  omega
theorem or_pow {r a : Nat} (h : a < 64) (hr : r < 18446744073709551616) : bits BinOp.or IntKind.u64 (r : Int) ((2 : Int) ^ a) = ((r ||| 2 ^ a : Nat) : Int) := by
  have e : (2 : Int) ^ a = ((2 ^ a : Nat) : Int) := by simp
  rw [e]
  exact bits_or_u64_nat r (2 ^ a) hr (pow_small h)
theorem castL_set (r : List Nat) (i v : Nat) : castL (r.set i v) = (castL r).set i (v : Int) := by simp [castL, List.map_set]
theorem R_drew {α : Type} {d : Kd α} {e : Nat} {w : World} {base : Nat} {ok : Nat → Prop} {v : Value} {xs : List α} (h : d.R e w base ok v xs) : d.R e w.drew base ok v xs := Kd.R_move h (fun _ _ => rfl)

/-- where the loop of 'ahead' stands -/
structure AH (w2 : World) (B g n : Nat) (xs : List (Int × Int)) (k : Nat) (wr : World) : Prop where
  row : kU.R 82 wr B (fun _ => True) (.slice (some ⟨g, 0, none⟩) n n) (castL (aheadN n (xs.take k)))
  below : Below w2.heap.size w2 wr

set_option maxHeartbeats 4000000 in
theorem ahead_any (n : Nat) (s : SL) (xs : List (Int × Int)) (w : World) (h : RdP w s xs) (hl : xs.length ≤ 1000) (hn : checkB n xs = true) :
    Calls Tryd.prog 46 #[graphV n s xs] w (fun e w' => ∃ s' : SL, e = .returned (s'.v n) ∧ kU.R 82 w' w.heap.size (fun _ => True) (s'.v n) (castL (aheadN n xs)) ∧ Below w.heap.size w w') := by
  obtain ⟨A, cp⟩ := s
  have hn64 : n ≤ 64 := by simp [checkB] at hn; exact hn.1
  have hall : ∀ j (hj : j < xs.length), 0 ≤ xs[j].1 ∧ 0 ≤ xs[j].2 ∧ xs[j].1 < n ∧ xs[j].2 < n := fun j hj => by
    simp only [checkB, Bool.and_eq_true, List.all_eq_true, decide_eq_true_eq] at hn
    have := hn.2 _ (List.getElem_mem hj)
    simp only [okE, Bool.and_eq_true, decide_eq_true_eq] at this
    omega
  have HA := Lib.hid hall
  have hmk := YtedalanhjhiehaaDoorW.PrintWords.print_make (P := Tryd.prog) 86 82 .u64 8 Tryd.underlying86 info82 (by decide) n (by omega)
  obtain ⟨w2, hw2⟩ : ∃ w2, w2 = w.alloc (.cells #[.int .i64 n, .slice A xs.length cp] 76) := ⟨_, rfl⟩
  have hb2 : Below w.heap.size w w2 := by rw [hw2]; exact (Below.refl _ _).alloc (Nat.le_refl _) _
  have hc2 := heap_alloc_new w (.cells #[.int .i64 n, .slice A xs.length cp] 76)
  rw [← hw2] at hc2
  have c0 : w2.cell? ⟨w.heap.size, 0, none⟩ = some (.int .i64 n) := by rw [cell_at hc2]; rfl
  have c1 : w2.cell? ⟨w.heap.size, 1, none⟩ = some (.slice A xs.length cp) := by rw [cell_at hc2]; rfl
  have H := Lib.hid (h.below hb2)
  have HB2 := Lib.hid hb2
  have HS2 : Hid (w2.heap.size = w.heap.size + 1) := Lib.hid (by rw [hw2]; simp)
  have HC := Lib.hid (And.intro c0 c1)
  clear h hb2 hc2 hall hn
  unfold graphV SL.v at *
  go_enter Tryd.func46, Tryd.ntmps46
  go_wp2
  have h0 : AH w2 w.heap.size (w.heap.size + 1) n xs 0 (w2.alloc (.cells (madeCells #[.int .u64 0] n) 82)) := by
    refine ⟨?_, (Below.refl _ _).alloc (Nat.le_refl _) _⟩
    have := YtedalanhjhiehaaDoorW.PrintWords.own_made w2 w.heap.size 82 .u64 n HB2.out.size (by omega)
    rw [HS2.out] at this
    have e : castL (aheadN n (xs.take 0)) = List.replicate n 0 := by simp [castL, aheadN]
    rw [e]
    exact YtedalanhjhiehaaDoorW.PrintWords.Kd.R_of_own (enc := Value.int .u64) (h1 := fun _ => rfl) (by simpa [nums, YtedalanhjhiehaaDoorW.PrintWords.encs] using this) (fun _ _ => trivial)
  rw [← hw2]
  clear hw2 hmk
  go_loopw [12] (fun i wr => ∃ k : Nat, k ≤ xs.length ∧ i = .int .i64 k ∧ Hid (AH w2 w.heap.size (w.heap.size + 1) n xs k wr)) (fun i _ => xs.length - (intOf i).toNat)
  case atStart => exact ⟨0, Nat.zero_le _, rfl, Lib.hid h0⟩
  case round =>
    obtain ⟨k, hk, rfl, HR⟩ := hrel
    by_cases hlt : k < xs.length
    · obtain ⟨ad, he, g0, g1⟩ := (H.out.below HR.out.below).at_ k hlt
      obtain rfl : A = some ad := he
      obtain ⟨i1, i2, i3, i4⟩ := HA.out k hlt
      obtain ⟨a, ha⟩ := Int.eq_ofNat_of_zero_le i1
      obtain ⟨b, hb⟩ := Int.eq_ofNat_of_zero_le i2
      rw [ha] at g0 i3
      rw [hb] at g1 i4
      have HAB := Lib.hid (And.intro ha hb)
      clear ha hb i1 i2 c0 c1 h0
      have hg1 : w.heap.size + 1 < wr.heap.size := by
        have := HR.out.below.size
        have h2 : w2.heap.size = w.heap.size + 1 := HS2.out
        have h3 := YtedalanhjhiehaaDoorW.PrintWords.Kd.R_lt HR.out.row (w.heap.size + 1) (by simp [Value.ownBlock])
        exact h3
      have hlen : (castL (aheadN n (xs.take k))).length = n := by rw [castL_length, aheadN_length]
      obtain ⟨r, hr⟩ : ∃ r, r = (aheadN n (xs.take k)).getD b 0 := ⟨_, rfl⟩
      have hrow : kU.R 82 wr w.heap.size (fun _ => True) (.slice (some ⟨w.heap.size + 1, 0, none⟩) (castL (aheadN n (xs.take k))).length n) (castL (aheadN n (xs.take k))) := by
        rw [hlen]
        exact HR.out.row
      have hcell := Kd.R_cell (enc := Value.int .u64) (d := (0 : Int)) (h1 := fun _ => rfl) hrow (b : Int) (by omega) (by rw [hlen]; omega)
      have hcr : YtedalanhjhiehaaDoorW.PrintWords.rdOf 0 (castL (aheadN n (xs.take k))) (b : Int) = (r : Int) := by
        rw [hr]
        simp [YtedalanhjhiehaaDoorW.PrintWords.rdOf, castL, List.getD_eq_getElem?_getD]
        cases (aheadN n (List.take k xs))[b]? <;> simp
      rw [hcr] at hcell
      simp only [Int.toNat_natCast] at hcell
      obtain ⟨w5, hw5⟩ : ∃ w5, w5 = wr.alloc (.cells #[.int .i64 (a : Int), .int .i64 (b : Int)] 54) := ⟨_, rfl⟩
      have hb5 : Below wr.heap.size wr w5 := by rw [hw5]; exact (Below.refl _ _).alloc (Nat.le_refl _) _
      have hx5 := heap_alloc_new wr (.cells #[.int .i64 (a : Int), .int .i64 (b : Int)] 54)
      rw [← hw5] at hx5
      have e0 : w5.cell? ⟨wr.heap.size, 0, none⟩ = some (.int .i64 (a : Int)) := by rw [cell_at hx5]; rfl
      have e1 : w5.cell? ⟨wr.heap.size, 1, none⟩ = some (.int .i64 (b : Int)) := by rw [cell_at hx5]; rfl
      have e2 : w5.cell? ⟨w.heap.size + 1, b, none⟩ = some (.int .u64 (r : Int)) := keep_cell hb5 hcell.1
      have e3 : w5.frozen? ⟨w.heap.size + 1, b, none⟩ = false := (hb5.frozen (p := ⟨w.heap.size + 1, b, none⟩) hg1).trans hcell.2
      have HH := Lib.hid (And.intro hrow (And.intro hr (And.intro hlen hb5)))
      clear hcell hcr hrow hr hlen hx5 hb5
      go_wp2
      rw [← hw5]
      clear hw5
      refine wp_region_K (N := 11) (fun w' => w'.cell? ⟨wr.heap.size, 0, none⟩ = some (.int .i64 (a : Int)) ∧ w'.cell? ⟨wr.heap.size, 1, none⟩ = some (.int .i64 (b : Int)) ∧ w'.cell? ⟨w.heap.size + 1, b, none⟩ = some (.int .u64 (r : Int))) 10 (by kernel_rfl) rfl ?_
      have HS := ((And.intro e0 (And.intro e1 e2)) : (fun w' => w'.cell? ⟨wr.heap.size, 0, none⟩ = some (.int .i64 (a : Int)) ∧ w'.cell? ⟨wr.heap.size, 1, none⟩ = some (.int .i64 (b : Int)) ∧ w'.cell? ⟨w.heap.size + 1, b, none⟩ = some (.int .u64 (r : Int))) w5.drew)
      refine wpAnyK_take (i := 0) (g := 11) (v := .slice (some ⟨w.heap.size + 1, 0, none⟩) n n) rfl (by kernel_rfl) (fun _ _ _ h => h) (Or.inl ⟨by rfl, fun w' hw' => ?_⟩) HS ?_
      · obtain ⟨k0, k1, k2⟩ := hw'
        go_simp
      try simp only [Act.put, List.setIfInBounds_toArray, List.set_cons_zero, List.set_cons_succ]
      refine wpAnyK_take (i := 1) (g := 11) (v := .pointer (some ⟨wr.heap.size, 1, none⟩)) rfl (by kernel_rfl) (fun _ _ _ h => h) (Or.inl ⟨by rfl, fun w' hw' => ?_⟩) HS ?_
      · obtain ⟨k0, k1, k2⟩ := hw'
        go_simp
      try simp only [Act.put, List.setIfInBounds_toArray, List.set_cons_zero, List.set_cons_succ]
      refine wpAnyK_take (i := 2) (g := 11) (v := .int .i64 (b : Int)) rfl (by kernel_rfl) (fun _ _ _ h => h) (Or.inl ⟨by rfl, fun w' hw' => ?_⟩) HS ?_
      · obtain ⟨k0, k1, k2⟩ := hw'
        go_simp
      try simp only [Act.put, List.setIfInBounds_toArray, List.set_cons_zero, List.set_cons_succ]
      refine wpAnyK_take (i := 3) (g := 11) (v := .pointer (some ⟨w.heap.size + 1, b, none⟩)) rfl (by kernel_rfl) (fun _ _ _ h => h) (Or.inl ⟨by rfl, fun w' hw' => ?_⟩) HS ?_
      · obtain ⟨k0, k1, k2⟩ := hw'
        go_simp
      try simp only [Act.put, List.setIfInBounds_toArray, List.set_cons_zero, List.set_cons_succ]
      refine wpAnyK_take (i := 4) (g := 11) (v := .int .u64 (r : Int)) rfl (by kernel_rfl) (fun _ _ _ h => h) (Or.inl ⟨by rfl, fun w' hw' => ?_⟩) HS ?_
      · obtain ⟨k0, k1, k2⟩ := hw'
        go_simp
      try simp only [Act.put, List.setIfInBounds_toArray, List.set_cons_zero, List.set_cons_succ]
      refine wpAnyK_take (i := 5) (g := 11) (v := .pointer (some ⟨wr.heap.size, 0, none⟩)) rfl (by kernel_rfl) (fun _ _ _ h => h) (Or.inl ⟨by rfl, fun w' hw' => ?_⟩) HS ?_
      · obtain ⟨k0, k1, k2⟩ := hw'
        go_simp
      try simp only [Act.put, List.setIfInBounds_toArray, List.set_cons_zero, List.set_cons_succ]
      refine wpAnyK_take (i := 6) (g := 11) (v := .int .i64 (a : Int)) rfl (by kernel_rfl) (fun _ _ _ h => h) (Or.inl ⟨by rfl, fun w' hw' => ?_⟩) HS ?_
      · obtain ⟨k0, k1, k2⟩ := hw'
        go_simp
      try simp only [Act.put, List.setIfInBounds_toArray, List.set_cons_zero, List.set_cons_succ]
      refine wpAnyK_take (i := 7) (g := 11) (v := .int .u64 ((2 ^ a : Nat) : Int)) rfl (by kernel_rfl) (fun _ _ _ h => h) (Or.inl ⟨by rfl, fun w' hw' => ?_⟩) HS ?_
      · obtain ⟨k0, k1, k2⟩ := hw'
        go_simp
        exact wrap_pow (by omega)
      try simp only [Act.put, List.setIfInBounds_toArray, List.set_cons_zero, List.set_cons_succ]
      refine wpAnyK_take (i := 8) (g := 11) (v := .int .u64 ((r ||| 2 ^ a : Nat) : Int)) rfl (by kernel_rfl) (fun _ _ _ h => h) (Or.inl ⟨by rfl, fun w' hw' => ?_⟩) HS ?_
      · obtain ⟨k0, k1, k2⟩ := hw'
        go_simp
        exact or_pow (by omega) (by rw [HH.out.2.1]; exact small_getD (aheadN_small n _ (fun x hx => by obtain ⟨j, hj, rfl⟩ := List.mem_iff_getElem.1 hx; rw [List.length_take] at hj; rw [List.getElem_take]; have := HA.out j (by omega); omega)) b)
      try simp only [Act.put, List.setIfInBounds_toArray, List.set_cons_zero, List.set_cons_succ]
      refine wpAnyK_take (i := 9) (g := 11) (v := .pointer (some ⟨w.heap.size + 1, b, none⟩)) rfl (by kernel_rfl) (fun _ _ _ h => h) (Or.inl ⟨by rfl, fun w' hw' => ?_⟩) HS ?_
      · obtain ⟨k0, k1, k2⟩ := hw'
        go_simp
      try simp only [Act.put, List.setIfInBounds_toArray, List.set_cons_zero, List.set_cons_succ]
      refine wpAnyK_one (i := 10) (by kernel_rfl) rfl rfl (fun K hK => ?_)
      go_simp
      refine hK.out _ _ (fun h => nomatch (show true = false from h)) ?_
      clear hK K
      try simp only [Act.put, List.setIfInBounds_toArray, List.set_cons_zero, List.set_cons_succ]
      refine wpAnyK_done (by kernel_rfl) ?_
      go_wp2
      refine ⟨⟨k + 1, by omega, by go_num, Lib.hid ⟨?_, ?_⟩⟩, by simp [intOf]; omega⟩
      · obtain ⟨hrow, hr, hlen, hb5⟩ := HH.out
        obtain ⟨p1, _⟩ := Kd.R_put (enc := Value.int .u64) (h1 := fun _ => rfl) (Kd.R_below hrow hb5) (b : Int) ((r ||| 2 ^ a : Nat) : Int)
        rw [Int.toNat_natCast, ← castL_set, hlen] at p1
        have ex : aheadN n (xs.take (k + 1)) = (aheadN n (xs.take k)).set b (r ||| 2 ^ a) := by
          rw [List.take_succ_eq_append_getElem hlt, aheadN_snoc, aheadStep, HAB.out.1, HAB.out.2]
          simp only [Int.toNat_natCast]
          rw [← hr]
        rw [ex]
        exact R_drew p1
      · have h1 := (st_below (p := ⟨w.heap.size + 1, b, none⟩) (v := .int .u64 ((r ||| 2 ^ a : Nat) : Int)) (Lib.hid (HR.out.below.trans (HH.out.2.2.2.mono HR.out.below.size))) (by rw [HS2.out]; exact Nat.le_refl _)).out
        exact ⟨h1.os, h1.tape, h1.output, h1.size, h1.block⟩
    · have hk' : k = xs.length := by omega
      subst hk'
      have HF := Lib.hid (show kU.R 82 wr w.heap.size (fun _ => True) (.slice (some ⟨w.heap.size + 1, 0, none⟩) n n) (castL (aheadN n xs)) ∧ Below w.heap.size w wr from ⟨by have := HR.out.row; rwa [List.take_length] at this, HB2.out.trans (HR.out.below.mono HB2.out.size)⟩)
      go_wp2
      go_ret
      exact ⟨⟨some ⟨w.heap.size + 1, 0, none⟩, n⟩, rfl, HF.out.1, HF.out.2⟩
end Go.Proofs.YtedalanhjhiehaaDoor
