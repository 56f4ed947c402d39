import Derived.Test.YtgkebieekpkmmaaAn
namespace Go.Proofs.Ytgkebieekpkmmaa
open Go.RowKit
open YtgkebieekpkmmaaW.PrintWords (ReadsInt rd)

def J1 (st : FSt) (i : Nat) : Prop := (st.ent = none ∧ st.ch = 0 ∨ st.ent = some false ∧ st.ch = 1) ∧ st.late.length ≤ i
def J2 (st : FSt) (i : Nat) : Prop := st.ent = some true ∧ 0 ≤ st.ch ∧ st.ch ≤ 2 ∧ st.late.length ≤ i

theorem J1_do {st : FSt} {i : Nat} (h : J1 st i) : J1 (doSt st false) i := by
  obtain ⟨h, hl⟩ := h
  rcases h with ⟨h1, h2⟩ | ⟨h1, h2⟩
  · exact ⟨.inr (by simp [doSt, h1, h2]), by simpa [doSt, h1] using hl⟩
  · exact ⟨.inr (by simp [doSt, h1, h2]), by simpa [doSt, h1] using hl⟩
theorem J1_call {st : FSt} {i : Nat} (h : J1 st i) (f : Int) : J1 (callSt st false f) (i + 1) := by
  have up : ∀ {s : FSt}, J1 s i → J1 s (i + 1) := fun h => ⟨h.1, by have := h.2; omega⟩
  unfold callSt
  split
  · exact up h
  split
  · exact ⟨h.1, by have := h.2; simp; omega⟩
  split
  · exact up (J1_do (J1_do h))
  · exact up (J1_do h)
theorem J2_do {st : FSt} {i : Nat} (h : J2 st i) (u : Bool) : doSt st u = st := by
  obtain ⟨h1, _⟩ := h
  cases u <;> simp [doSt, undoSt, h1]
theorem J2_call {st : FSt} {i : Nat} (h : J2 st i) (u : Bool) (f : Int) : J2 (callSt st u f) (i + 1) := by
  have up : ∀ {s : FSt}, J2 s i → J2 s (i + 1) := fun h => ⟨h.1, h.2.1, h.2.2.1, by have := h.2.2.2; omega⟩
  unfold callSt
  simp only [J2_do h]
  split
  · exact up h
  split
  · exact ⟨h.1, h.2.1, h.2.2.1, by have := h.2.2.2; simp; omega⟩
  split
  · exact up h
  · exact up h
theorem J1_undo {st : FSt} {i : Nat} (h : J1 st i) : J2 (doSt st true) i := by
  obtain ⟨h, hl⟩ := h
  rcases h with ⟨h1, h2⟩ | ⟨h1, h2⟩
  · exact ⟨by simp [doSt, undoSt, h1], by simp [doSt, undoSt, h1, h2], by simp [doSt, undoSt, h1, h2], by simpa [doSt, undoSt, h1] using hl⟩
  · exact ⟨by simp [doSt, undoSt, h1], by simp [doSt, undoSt, h1, h2], by simp [doSt, undoSt, h1, h2], by simpa [doSt, undoSt, h1] using hl⟩
theorem J1_call_undo {st : FSt} {i : Nat} (h : J1 st i) (f : Int) (he : callE st true f = 0) : J2 (callSt st true f) i := by
  unfold callE at he
  unfold callSt
  split
  · rename_i h1
    exfalso
    rcases h1 with h1 | h1 | h1 <;> simp [h1] at he
  split
  · rename_i h1
    simp [h1] at he
  have h2 := J1_undo h
  split
  · rw [J2_do h2]; exact h2
  · exact h2
theorem callE_cases (st : FSt) (u : Bool) (f : Int) : -1000 ≤ callE st u f ∧ callE st u f ≤ 1000 := by
  have hd : ∀ s v, 0 ≤ doE s v ∧ doE s v ≤ 63 := by
    intro s v
    unfold doE
    split
    · omega
    · split <;> omega
  unfold callE
  have a := hd (doSt st u) u
  have b := hd st u
  repeat' split
  all_goals omega

theorem once_long (va vc : Value) (A C : Option Addr) (n m ca cc : Nat) (u : Int) (hva : va = .slice A n ca) (hvc : vc = .slice C m cc) (hn : 40 < n ∨ 40 < m) (w : World) :
    Calls Try.prog 3 #[va, .int .i64 u, vc] w fun e w' => e = .returned (.bool true) ∧ Below w.heap.size w w' := by
  subst hva hvc
  by_cases h1 : 40 < n
  · have hd : decide ((40 : Int) < n) = true := by simp; omega
    go_enter Try.func3, Try.ntmps3
    go_wp2_with (go_at_call 4; refine (anchor_ok _).mono ?_; rintro e w1 ⟨rfl, hb⟩)
    go_ret
    exact ⟨rfl, hb⟩
  · have hd : decide ((40 : Int) < n) = false := by simp; omega
    have hd2 : decide ((40 : Int) < m) = true := by simp; omega
    go_enter Try.func3, Try.ntmps3
    go_wp2_with (go_at_call 4; refine (anchor_ok _).mono ?_; rintro e w1 ⟨rfl, hb⟩)
    go_ret
    exact ⟨rfl, hb⟩
theorem callo (S : Nat → Prop) (F : Nat) (st : FSt) (fate : Int) (hlen : st.late.length ≤ 1000) (hc0 : 0 ≤ st.ch) (hc1 : st.ch ≤ 998) (w : World) (hS : ∀ i, w.heap.size ≤ i → S i) (h : Fl w S F c1c st) :
    Calls Try.prog 6 #[.pointer (some ⟨F, 0, none⟩), .agg #[.int .i64 1, .int .i64 0, .complex .f64 4607182418800017408 4607182418800017408, .bool false], .int .i64 fate] w fun e w' => e = .returned (.int .i64 (callE st false fate)) ∧ Fl w' S F c1c (callSt st false fate) ∧ KeepS S w w' :=
  call_any c1c ok1 false (so1 false) S F st fate hlen hc0 hc1 w hS h
theorem callu (S : Nat → Prop) (F : Nat) (st : FSt) (fate : Int) (hlen : st.late.length ≤ 1000) (hc0 : 0 ≤ st.ch) (hc1 : st.ch ≤ 998) (w : World) (hS : ∀ i, w.heap.size ≤ i → S i) (h : Fl w S F c1c st) :
    Calls Try.prog 6 #[.pointer (some ⟨F, 0, none⟩), .agg #[.int .i64 1, .int .i64 0, .complex .f64 0 0, .bool true], .int .i64 fate] w fun e w' => e = .returned (.int .i64 (callE st true fate)) ∧ Fl w' S F c1c (callSt st true fate) ∧ KeepS S w w' :=
  call_any c1c ok1 true (so1 true) S F st fate hlen hc0 hc1 w hS h

theorem J1.ch {st : FSt} {i : Nat} (h : J1 st i) : 0 ≤ st.ch ∧ st.ch ≤ 1 := by
  rcases h.1 with ⟨_, h⟩ | ⟨_, h⟩ <;> omega
theorem J1.z {st : FSt} {i : Nat} (h : J1 st i) : zOf c1c st.ent = (4613937818241073152, 4613937818241073152) ∨ zOf c1c st.ent = (4616189618054758400, 4616189618054758400) := by
  rcases h.1 with ⟨h, _⟩ | ⟨h, _⟩
  · left; rw [h]; rfl
  · right; rw [h]; rfl

theorem below_keep {B : Nat} {a b c : World} {S : Nat → Prop} (h : Below B a b) (hk : KeepS S b c) (hB : B ≤ b.heap.size) (hS : ∀ i, S i → B ≤ i) : Below B a c :=
  h.trans ⟨hk.os, hk.tape, hk.output, hk.size, fun k hk' => hk.block k (by omega) (fun hs => by have := hS k hs; omega)⟩

theorem deliver_J2 (S : Nat → Prop) (F : Nat) (st : FSt) (i : Nat) (hi : i ≤ 1000) (hj : J2 st i) (w : World) (hS : ∀ i, w.heap.size ≤ i → S i) (h : Fl w S F c1c st) :
    Calls Try.prog 9 #[.pointer (some ⟨F, 0, none⟩), .int .i64 0] w fun e w' => ∃ e0 st', e = .returned (.int .i64 e0) ∧ Fl w' S F c1c st' ∧ J2 st' i ∧ KeepS S w w' := by
  cases hl : st.late with
  | nil =>
    refine (deliver_nil c1c S F st hl w h).mono fun e w' hh => ?_
    obtain ⟨rfl, rfl⟩ := hh
    exact ⟨63, st, rfl, h, hj, KeepS.refl _ _⟩
  | cons u rest =>
    have hlen : st.late.length ≤ i := hj.2.2.2
    refine (deliver_one c1c ok1 S F st u rest hl (by omega) hj.2.1 (by have := hj.2.2.1; omega) w hS h).mono fun e w' hh => ?_
    obtain ⟨rfl, hf, hk⟩ := hh
    have hj' : J2 { st with late := rest } i := ⟨hj.1, hj.2.1, hj.2.2.1, by rw [hl] at hlen; simp at hlen ⊢; omega⟩
    rw [J2_do hj'] at hf
    exact ⟨_, _, rfl, hf, hj', hk⟩

def Rel2 (w : World) (N N2 F k : Nat) (wr : World) : Prop :=
  ∃ st, Fl wr (fun i => (w.heap.size ≤ i ∧ i ≠ N) ∧ i ≠ N2) F c1c st ∧ J2 st (40 + 2 * k) ∧ Box wr N c1c false ∧ Box wr N2 c1c true ∧ Below w.heap.size w wr

def Rel1 (w : World) (N F k : Nat) (wr : World) : Prop :=
  ∃ st, Fl wr (fun i => w.heap.size ≤ i ∧ i ≠ N) F c1c st ∧ J1 st k ∧ Box wr N c1c false ∧ Below w.heap.size w wr

theorem once_main (A C : Option Addr) (n m ca cc : Nat) (u : Int) (xs ys : List Int) (hn : n ≤ 40) (hm : m ≤ 40) (w : World) (hx : ReadsInt w .i64 A n xs) (hy : ReadsInt w .i64 C m ys) :
    Calls Try.prog 3 #[.slice A n ca, .int .i64 u, .slice C m cc] w fun e w' => e = .returned (.bool true) ∧ Below w.heap.size w w' := by
  have hd : decide ((40 : Int) < n) = false := by simp; omega
  have hd2 : decide ((40 : Int) < m) = false := by simp; omega
  have HX := Lib.hid hx
  have HY := Lib.hid hy
  clear hx hy
  go_enter Try.func3, Try.ntmps3
  go_wp2_with (go_at_call 4; refine (anchor_ok _).mono ?_; rintro e w1 ⟨rfl, hb⟩)
  go_wp2_with fail
  refine (new_one c1c ok1 w1.heap.size _ (by show World.cell? _ _ = some (.complex .f64 4613937818241073152 4613937818241073152); go_simp)).mono ?_
  rintro e w2 ⟨F, rfl, hf, hb2⟩
  have hsz1 : w.heap.size ≤ w1.heap.size := hb.size
  have hsz2 : w1.heap.size + 1 ≤ w2.heap.size := by have := hb2.size; simpa using this
  have hbb : Below w.heap.size w w2 := (hb.trans ((Below.refl _ _).alloc hsz1 _)).trans (hb2.mono (by simp; omega))
  have hR : ∀ o, o = (Obj.cells #[.int .i64 1, .int .i64 0, .complex .f64 4607182418800017408 4607182418800017408, .bool false] 29) → Rel1 w w2.heap.size F 0 (w2.alloc o) := fun o ho =>
    ⟨⟨none, [], 0⟩, (hf.mono (fun i hi hs => by simp at hs; exact ⟨by omega, by omega⟩)).keeps ((Below.refl _ _).alloc (Nat.le_refl _) _), ⟨.inl ⟨rfl, rfl⟩, Nat.le_refl _⟩, by rw [ho]; exact heap_alloc_new w2 _, hbb.alloc (by omega) _⟩
  have HR := Lib.hid hR
  have hN : w.heap.size ≤ w2.heap.size := by omega
  clear hR hf hb hb2 hbb
  have k2 := fun (w : World) (a : Addr) => run_store_cx Try.prog w a 4607182418800017408 4607182418800017408 .plain
  go_wp2
  go_loopw [34] (fun i wr => ∃ k : Nat, k ≤ n ∧ i = .int .i64 k ∧ Rel1 w w2.heap.size F k wr) (fun i _ => n - (intOf i).toNat)
  case atStart => exact ⟨0, Nat.zero_le _, rfl, HR.out _ rfl⟩
  case round =>
    obtain ⟨k, hk, rfl, st, hfl, hj, hbox, hbel⟩ := hrel
    by_cases hlt : k < n
    · obtain ⟨ad, hA, hcx⟩ := (HX.out.below hbel).at_ (k : Int) (by omega) (by omega)
      subst hA
      simp only [Int.toNat_natCast] at hcx
      obtain ⟨b0, b1, b2, b3⟩ : wr.cell? ⟨w2.heap.size, 0, none⟩ = some (.int .i64 1) ∧ wr.cell? ⟨w2.heap.size, 1, none⟩ = some (.int .i64 0) ∧ wr.cell? ⟨w2.heap.size, 2, none⟩ = some (.complex .f64 4607182418800017408 4607182418800017408) ∧ wr.cell? ⟨w2.heap.size, 3, none⟩ = some (.bool false) := hbox.cells
      have hNr := hbox.lt
      have HB := Lib.hid (And.intro hfl (And.intro hj (And.intro hbox hbel)))
      clear hfl hj hbox hbel
      go_wp2_with fail
      refine (callo (fun i => w.heap.size ≤ i ∧ i ≠ w2.heap.size) F st (rd xs ↑k) (by have := HB.out.2.1.2; omega) (by have := HB.out.2.1.ch; omega) (by have := HB.out.2.1.ch; omega) _ (by intro i hi; exact ⟨by omega, by omega⟩) (by exact HB.out.1)).mono ?_
      rintro e w3 ⟨rfl, hf3, hk3⟩
      have hj3 := J1_call HB.out.2.1 (rd xs ↑k)
      have hbox3 := HB.out.2.2.1.keep hk3 (fun h => h.2 rfl)
      have hbel3 : Below w.heap.size w w3 := below_keep HB.out.2.2.2 hk3 HB.out.2.2.2.size (fun i h => h.1)
      generalize hst3 : callSt st false (rd xs ↑k) = st3 at *
      have H3 := Lib.hid (And.intro hf3 (And.intro hj3 (And.intro hbox3 hbel3)))
      clear hf3 hk3 hj3 hbox3 hbel3 hst3 b0 b1 b2 b3
      go_wp2_with fail
      refine (places_one c1c _ F st3 _ (by exact H3.out.1)).mono ?_
      rintro e w4 ⟨g, cp, rfl, hz4, hg4, _, hb4⟩
      have H4 := Lib.hid (And.intro (H3.out.1.keeps hb4) (And.intro (H3.out.2.2.1.below hb4) (H3.out.2.2.2.trans (hb4.mono H3.out.2.2.2.size))))
      have hch := H3.out.2.1.ch
      clear hb4
      have o33 : FloatKind.f64.format.order 4613937818241073152 4613937818241073152 = some Ordering.eq := by kernel_rfl
      have o43 : FloatKind.f64.format.order 4616189618054758400 4613937818241073152 = some Ordering.gt := by kernel_rfl
      have o44 : FloatKind.f64.format.order 4616189618054758400 4616189618054758400 = some Ordering.eq := by kernel_rfl
      have hch1 : decide ((1 : Int) < st3.ch) = false := by simp; omega
      rcases H3.out.2.1.z with hz | hz
      all_goals
        rw [hz] at hz4
        clear hz
        go_wp2_with (go_at_call 8; refine (changes_one c1c _ F st3 _ (by exact H4.out.1)).mono ?_; rintro e w5 ⟨rfl, rfl⟩)
        go_roundw
        case rel => exact ⟨k + 1, by omega, by go_num, st3, H4.out.1, H3.out.2.1, H4.out.2.1, H4.out.2.2⟩
        case measure => simp [intOf]; omega
    · have HB := Lib.hid (And.intro hfl (And.intro hj (And.intro hbox hbel)))
      have hNr := hbox.lt
      clear hfl hj hbox hbel
      have k3 := fun (w : World) (a : Addr) => run_store_cx Try.prog w a 0 0 .plain
      go_wp2_with fail
      refine (callu (fun i => (w.heap.size ≤ i ∧ i ≠ w2.heap.size) ∧ i ≠ wr.heap.size) F st u (by have := HB.out.2.1.2; omega) (by have := HB.out.2.1.ch; omega) (by have := HB.out.2.1.ch; omega) _ (by intro i hi; simp at hi; exact ⟨⟨by omega, by omega⟩, by omega⟩) (by exact (HB.out.1.mono (fun i hi hs => ⟨hs, by omega⟩)).keeps ((Below.refl _ _).alloc (Nat.le_refl _) _))).mono ?_
      rintro e w3 ⟨rfl, hf3, hk3⟩
      have hwr : w.heap.size ≤ wr.heap.size := HB.out.2.2.2.size
      have hbel3 : Below w.heap.size w w3 := below_keep (HB.out.2.2.2.alloc hwr _) hk3 (by simp; omega) (fun i h => h.1.1)
      by_cases he : callE st true u = 0
      · have hj3 := J1_call_undo HB.out.2.1 u he
        have hbo : Box w3 w2.heap.size c1c false := (HB.out.2.2.1.below ((Below.refl _ _).alloc (Nat.le_refl _) _)).keep hk3 (fun h => h.1.2 rfl)
        have hbu : Box w3 wr.heap.size c1c true := Box.keep (heap_alloc_new wr _) hk3 (fun h => h.2 rfl)
        generalize callSt st true u = st3 at *
        have H3 := Lib.hid (And.intro hf3 (And.intro hj3 (And.intro hbo (And.intro hbu hbel3))))
        have hwlt : wr.heap.size + 1 ≤ w3.heap.size := by have := hk3.size; simpa using this
        rw [he]
        clear hf3 hk3 hj3 hbo hbu hbel3 he
        have hR2 : Rel2 w w2.heap.size wr.heap.size F 0 w3 := ⟨st3, H3.out.1, ⟨H3.out.2.1.1, H3.out.2.1.2.1, H3.out.2.1.2.2.1, by have := H3.out.2.1.2.2.2; omega⟩, H3.out.2.2.1, H3.out.2.2.2.1, H3.out.2.2.2.2⟩
        have HR2 := Lib.hid hR2
        clear hR2
        obtain ⟨wo, rfl⟩ : ∃ wo : World, wo = wr := ⟨_, rfl⟩
        go_wp2
        go_loopw [66] (fun i wr2 => ∃ k2 : Nat, k2 ≤ m ∧ i = .int .i64 k2 ∧ Rel2 w w2.heap.size wo.heap.size F k2 wr2) (fun i _ => m - (intOf i).toNat)
        case atStart => exact ⟨0, Nat.zero_le _, rfl, HR2.out⟩
        case round =>
          obtain ⟨q, hq, rfl, s2, hfl, hj, hbo, hbu, hbel⟩ := hrel
          by_cases hlt2 : q < m
          · obtain ⟨ad, hA, hcx⟩ := (HY.out.below hbel).at_ (q : Int) (by omega) (by omega)
            subst hA
            simp only [Int.toNat_natCast] at hcx
            obtain ⟨b0, b1, b2, b3⟩ : wr.cell? ⟨w2.heap.size, 0, none⟩ = some (.int .i64 1) ∧ wr.cell? ⟨w2.heap.size, 1, none⟩ = some (.int .i64 0) ∧ wr.cell? ⟨w2.heap.size, 2, none⟩ = some (.complex .f64 4607182418800017408 4607182418800017408) ∧ wr.cell? ⟨w2.heap.size, 3, none⟩ = some (.bool false) := hbo.cells
            have hl1 := hbo.lt
            have hl2 := hbu.lt
            have HB2 := Lib.hid (And.intro hfl (And.intro hj (And.intro hbo (And.intro hbu hbel))))
            clear hfl hj hbo hbu hbel
            go_wp2_with fail
            refine (callo (fun i => (w.heap.size ≤ i ∧ i ≠ w2.heap.size) ∧ i ≠ wo.heap.size) F s2 (rd ys ↑q) (by have := HB2.out.2.1.2.2.2; omega) HB2.out.2.1.2.1 (by have := HB2.out.2.1.2.2.1; omega) _ (by intro i hi; exact ⟨⟨by omega, by omega⟩, by omega⟩) (by exact HB2.out.1)).mono ?_
            rintro e w4 ⟨rfl, hf4, hk4⟩
            have hj4 := J2_call HB2.out.2.1 false (rd ys ↑q)
            have hbo4 := HB2.out.2.2.1.keep hk4 (fun h => h.1.2 rfl)
            have hbu4 := HB2.out.2.2.2.1.keep hk4 (fun h => h.2 rfl)
            have hbel4 : Below w.heap.size w w4 := below_keep HB2.out.2.2.2.2 hk4 HB2.out.2.2.2.2.size (fun i h => h.1.1)
            have hle4 : wr.heap.size ≤ w4.heap.size := hk4.size
            generalize callSt s2 false (rd ys ↑q) = s4 at *
            obtain ⟨d0, d1, d2, d3⟩ : w4.cell? ⟨wo.heap.size, 0, none⟩ = some (.int .i64 1) ∧ w4.cell? ⟨wo.heap.size, 1, none⟩ = some (.int .i64 0) ∧ w4.cell? ⟨wo.heap.size, 2, none⟩ = some (.complex .f64 0 0) ∧ w4.cell? ⟨wo.heap.size, 3, none⟩ = some (.bool true) := hbu4.cells
            have H4 := Lib.hid (And.intro hf4 (And.intro hj4 (And.intro hbo4 (And.intro hbu4 hbel4))))
            clear hf4 hk4 hj4 hbo4 hbu4 hbel4 b0 b1 b2 b3
            go_wp2_with fail
            refine (callu (fun i => (w.heap.size ≤ i ∧ i ≠ w2.heap.size) ∧ i ≠ wo.heap.size) F s4 (rd ys ↑q) (by have := H4.out.2.1.2.2.2; omega) H4.out.2.1.2.1 (by have := H4.out.2.1.2.2.1; omega) _ (by intro i hi; exact ⟨⟨by omega, by omega⟩, by omega⟩) (by exact H4.out.1)).mono ?_
            rintro e w5 ⟨rfl, hf5, hk5⟩
            have hj5 := J2_call H4.out.2.1 true (rd ys ↑q)
            have hbo5 := H4.out.2.2.1.keep hk5 (fun h => h.1.2 rfl)
            have hbu5 := H4.out.2.2.2.1.keep hk5 (fun h => h.2 rfl)
            have hbel5 : Below w.heap.size w w5 := below_keep H4.out.2.2.2.2 hk5 H4.out.2.2.2.2.size (fun i h => h.1.1)
            have hle5 : w4.heap.size ≤ w5.heap.size := hk5.size
            generalize callSt s4 true (rd ys ↑q) = s5 at *
            have H5 := Lib.hid (And.intro hf5 (And.intro hj5 (And.intro hbo5 (And.intro hbu5 hbel5))))
            clear hf5 hk5 hj5 hbo5 hbu5 hbel5 d0 d1 d2 d3
            go_wp2_with fail
            refine (deliver_J2 (fun i => (w.heap.size ≤ i ∧ i ≠ w2.heap.size) ∧ i ≠ wo.heap.size) F s5 _ (by omega) H5.out.2.1 _ (by intro i hi; exact ⟨⟨by omega, by omega⟩, by omega⟩) (by exact H5.out.1)).mono ?_
            rintro e w6 ⟨e6, s6, rfl, hf6, hj6, hk6⟩
            have hbo6 := H5.out.2.2.1.keep hk6 (fun h => h.1.2 rfl)
            have hbu6 := H5.out.2.2.2.1.keep hk6 (fun h => h.2 rfl)
            have hbel6 : Below w.heap.size w w6 := below_keep H5.out.2.2.2.2 hk6 H5.out.2.2.2.2.size (fun i h => h.1.1)
            have H6 := Lib.hid (And.intro hf6 (And.intro hj6 (And.intro hbo6 (And.intro hbu6 hbel6))))
            clear hf6 hk6 hj6 hbo6 hbu6 hbel6
            go_wp2_with fail
            refine (places_one c1c _ F s6 _ (by exact H6.out.1)).mono ?_
            rintro e w7 ⟨g, cp, rfl, hz7, hg7, _, hb7⟩
            have hz7' : w7.cell? ⟨g, 0, none⟩ = some (.complex .f64 4613937818241073152 4613937818241073152) := by
              rw [hz7, H6.out.2.1.1]; rfl
            have H7 := Lib.hid (And.intro (H6.out.1.keeps hb7) (And.intro (H6.out.2.2.1.below hb7) (And.intro (H6.out.2.2.2.1.below hb7) (H6.out.2.2.2.2.trans (hb7.mono H6.out.2.2.2.2.size)))))
            have hch7 : decide ((2 : Int) < s6.ch) = false := by have := H6.out.2.1.2.2.1; simp; omega
            have o33 : FloatKind.f64.format.order 4613937818241073152 4613937818241073152 = some Ordering.eq := by kernel_rfl
            clear hz7 hb7
            go_wp2_with (go_at_call 8; refine (changes_one c1c _ F s6 _ (by exact H7.out.1)).mono ?_; rintro e w8 ⟨rfl, rfl⟩)
            go_roundw
            case rel => exact ⟨q + 1, by omega, by go_num, s6, H7.out.1, ⟨H6.out.2.1.1, H6.out.2.1.2.1, H6.out.2.1.2.2.1, by have := H6.out.2.1.2.2.2; omega⟩, H7.out.2.1, H7.out.2.2.1, H7.out.2.2.2⟩
            case measure => simp [intOf]; omega
          · have HB2 := Lib.hid (And.intro hfl (And.intro hj hbel))
            clear hfl hj hbo hbu hbel
            go_wp2_with (go_at_call 10; refine (key_dead c1c _ F s2 HB2.out.2.1.1 _ (by exact HB2.out.1)).mono ?_; rintro e w4 ⟨rfl, nd, rfl⟩)
            go_ret
            exact ⟨rfl, HB2.out.2.2.trans (below_drewN' _ _)⟩
      · have he' : (callE st true u == 0) = false := by simp [he]
        have hb3 := Lib.hid hbel3
        generalize callE st true u = ce at *
        clear hf3 hk3 hbel3 he
        go_wp2
        go_ret
        exact ⟨rfl, hb3.out⟩

end Go.Proofs.Ytgkebieekpkmmaa
