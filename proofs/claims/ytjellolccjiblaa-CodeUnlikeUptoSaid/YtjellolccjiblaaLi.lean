import Derived.Test.YtjellolccjiblaaVe
namespace Go.Proofs.Ytjellolccjiblaa
open Go.RowKit
open YtjellolccjiblaaW.PrintWords (nums own_slice bytesOf print_append_str bytesOf_length Kd)
open PCodeUnlike

def listE {α : Type} (E : α → List Int × Bool) : List α → List Int × Bool
  | [] => ([], false)
  | x :: xs => seqE (E x) (listE E xs)
def lenE {α : Type} (E : α → List Int × Bool) (xs : List α) : List Int × Bool := seqE (numsE [(xs.length : Int)]) (listE E xs)

theorem seqE_assoc (a b c : List Int × Bool) : seqE (seqE a b) c = seqE a (seqE b c) := by simp [seqE, Bool.or_assoc]
theorem seqE_nil (a : List Int × Bool) : seqE a ([], false) = a := by simp [seqE]
theorem nil_seqE (a : List Int × Bool) : seqE ([], false) a = a := by simp [seqE]
theorem listE_take {α : Type} (E : α → List Int × Bool) (xs : List α) (k : Nat) (x : α) (h : xs[k]? = some x) : listE E (xs.take (k + 1)) = seqE (listE E (xs.take k)) (E x) := by
  induction xs generalizing k with
  | nil => simp at h
  | cons y ys ih =>
    match k with
    | 0 =>
      simp at h
      subst h
      simp [listE, seqE_nil, nil_seqE]
    | k + 1 =>
      simp at h
      simp [listE, ih k h, seqE_assoc]
theorem listE_split {α : Type} (E : α → List Int × Bool) (xs : List α) (k : Nat) (x : α) (h : xs[k]? = some x) : listE E xs = seqE (listE E (xs.take k)) (seqE (E x) (listE E (xs.drop (k + 1)))) := by
  induction xs generalizing k with
  | nil => simp at h
  | cons y ys ih =>
    match k with
    | 0 =>
      simp at h
      subst h
      simp [listE, nil_seqE]
    | k + 1 =>
      simp at h
      simp [listE, ih k h, seqE_assoc]

/-- the closure's captured variable -/
def Cap (w : World) (O P : Nat) : Prop := w.heap[P]? = some (.cells #[.pointer (some ⟨O, 0, none⟩)] 69 (0, 0))
theorem Cap.keep {w w' : World} {O P B : Nat} (h : Cap w O P) (k : KW B w w') : Cap w' O P := k.keep h (by decide)
theorem Cap.cell {w : World} {O P : Nat} (h : Cap w O P) : w.cell? ⟨P, 0, none⟩ = some (.pointer (some ⟨O, 0, none⟩)) := by rw [cell_at h]; rfl

/-- a closure that writes an element, given as the value that `val` knows -/
def Each {α : Type} (W0 : World) (O P F : Nat) (val : α → Value → Prop) (E : α → List Int × Bool) : Prop :=
  ∀ (x : α) (v : Value) (w : World) (bs : List Int) (bad : Bool), val x v → Cap w O P → St W0 w O bs bad (E x) → Calls Try.prog F #[v, .pointer (some ⟨P, 0, none⟩)] w (Wrote W0 w O bs bad (E x))

/-- where the loop of a list stands -/
structure LR {α : Type} (W0 w : World) (O : Nat) (bs : List Int) (bad : Bool) (E : α → List Int × Bool) (xs : List α) (k : Nat) (wr : World) : Prop where
  ws : WS wr W0.heap.size O (bs ++ (listE E (xs.take k)).1) (bad || (listE E (xs.take k)).2)
  kw : KW W0.heap.size w wr
theorem LR.st {α : Type} {W0 w wr : World} {O : Nat} {bs : List Int} {bad : Bool} {E : α → List Int × Bool} {xs : List α} {k : Nat} {x : α} (h : LR W0 w O bs bad E xs k wr) (h0 : St W0 w O bs bad (listE E xs)) (hx : xs[k]? = some x) :
    St W0 wr O (bs ++ (listE E (xs.take k)).1) (bad || (listE E (xs.take k)).2) (E x) :=
  ⟨by have := h0.room; rw [listE_split E xs k x hx] at this; simp [seqE] at this; simp; omega, h0.kw.trans h.kw, h.ws⟩
theorem LR.next {α : Type} {W0 w wr w1 w2 : World} {O : Nat} {bs : List Int} {bad : Bool} {E : α → List Int × Bool} {xs : List α} {k : Nat} {x : α} {e : Ending} (h : LR W0 w O bs bad E xs k wr) (hx : xs[k]? = some x) (k1 : KW W0.heap.size wr w1)
    (h' : Wrote W0 w1 O (bs ++ (listE E (xs.take k)).1) (bad || (listE E (xs.take k)).2) (E x) e w2) : LR W0 w O bs bad E xs (k + 1) w2 :=
  ⟨by rw [listE_take E xs k x hx]; simpa [seqE, Bool.or_assoc] using h'.2.1, h.kw.trans (k1.trans h'.2.2)⟩



theorem list93_put {W0 w : World} {O P : Nat} {bs : List Int} {bad : Bool} (E : S93 → List Int × Bool) (xs : List S93) (A : Option Addr) (c : Nat)
    (hC : Kd.C k93 W0 A xs.length xs) (hP : Cap w O P) (good : S93 → Prop) (hg : ∀ x ∈ xs, good x) (hlen : xs.length ≤ 1048576) (hE : Each W0 O P 30 (fun x v => good x ∧ ∃ cs, v = .agg cs.toArray ∧ k93.K W0 x cs) E) (h : St W0 w O bs bad (lenE E xs)) :
    Calls Try.prog 29 #[.pointer (some ⟨O, 0, none⟩), .slice A xs.length c, .func (.func 30) #[] #[.pointer (some ⟨P, 0, none⟩)]] w (Wrote W0 w O bs bad (lenE E xs)) := by
  have H := Lib.hid h
  have HE := Lib.hid hE
  have HP := Lib.hid hP
  have HC := Lib.hid hC
  have HG := Lib.hid hg
  clear h hE hP hC hg
  go_enter Try.func29, Try.ntmps29
  go_wp2_with fail
  refine (num_put [(xs.length : Int)] (by simp) H.out.fst 1 rfl _ rfl _ rfl).mono ?_
  rintro e w1 h1
  obtain rfl := h1.1
  have H1 := Lib.hid h1
  have HP1 := Lib.hid (HP.out.keep h1.2.2)
  have HS := Lib.hid (H.out.snd h1)
  clear h1
  go_wp2_with fail
  go_loopw [15] (fun i wr => ∃ k : Nat, k ≤ xs.length ∧ i = .int .i64 k ∧ LR W0 w1 O (bs ++ (numsE [(xs.length : Int)]).1) (bad || (numsE [(xs.length : Int)]).2) E xs k wr) (fun i _ => xs.length - (intOf i).toNat)
  case atStart => exact ⟨0, Nat.zero_le _, rfl, by simpa [listE] using HS.out.ws, KW.refl _ _⟩
  case round =>
    obtain ⟨k, hk, rfl, hlr⟩ := hrel
    have HL := Lib.hid hlr
    clear hlr
    by_cases hlt : k < xs.length
    · obtain ⟨x, hx⟩ : ∃ x, xs[k]? = some x := ⟨_, List.getElem?_eq_getElem hlt⟩
      have hkw : KW W0.heap.size W0 wr := H.out.kw.trans (H1.out.2.2.trans HL.out.kw)
      have hC : Kd.C k93 wr A xs.length xs := Kd.C_below HC.out (hkw.below (Nat.le_refl _))
      obtain ⟨ad, c0, rfl, _, hK0, hc0⟩ := Kd.C_get HC.out z93 k (by omega) (by omega)
      have hrx : xs.getD (k : Int).toNat z93 = x := by simp [hx]
      rw [hrx] at hK0
      clear hrx hC
      obtain rfl := k93_open hK0
      have hkc : ∀ a v, W0.cell? a = some v → wr.cell? a = some v := fun a v ha => ((hkw.below (Nat.le_refl _)).cell (World.block_lt_of_cell? W0 a ha)).trans ha
      have g0 := hkc _ _ (hc0 0 _ rfl)
      have g1 := hkc _ _ (hc0 1 _ rfl)
      have g2 := hkc _ _ (hc0 2 _ rfl)
      have g3 := hkc _ _ (hc0 3 _ rfl)
      have g4 := hkc _ _ (hc0 4 _ rfl)
      have hsz : Kd.sz k93 = 5 := rfl
      rw [hsz, Int.toNat_natCast, Nat.add_zero] at g0
      rw [hsz, Int.toNat_natCast, YtjellolccjiblaaW.PrintWords.add_field _ _ 1 (by omega)] at g1
      rw [hsz, Int.toNat_natCast, YtjellolccjiblaaW.PrintWords.add_field _ _ 2 (by omega)] at g2
      rw [hsz, Int.toNat_natCast, YtjellolccjiblaaW.PrintWords.add_field _ _ 3 (by omega)] at g3
      rw [hsz, Int.toNat_natCast, YtjellolccjiblaaW.PrintWords.add_field _ _ 4 (by omega)] at g4
      have HX := Lib.hid (And.intro hx hK0)
      clear hx hK0 hc0 hkc hsz hkw
      go_wp2_with fail
      refine (HE.out x _ _ _ _ ⟨HG.out x (List.mem_of_getElem? HX.out.1), _, rfl, HX.out.2⟩ ((HP1.out.keep HL.out.kw).keep ((KW.refl W0.heap.size _).alloc _)) ((HL.out.st HS.out HX.out.1).alloc _)).mono ?_
      rintro e2 w2 h2
      obtain rfl := h2.1
      have H2 := Lib.hid (HL.out.next HX.out.1 ((KW.refl _ _).alloc _) h2)
      clear h2
      go_wp2
      exact ⟨⟨k + 1, by omega, by go_num, H2.out⟩, by simp [intOf]; omega⟩
    · have hk' : k = xs.length := by omega
      subst hk'
      have hfin : Wrote W0 w O bs bad (lenE E xs) (.returned (.tuple #[])) wr := H1.out.seq ⟨rfl, by simpa using HL.out.ws, HL.out.kw⟩
      have HF := Lib.hid hfin
      clear hfin
      go_wp2
      go_end0
      exact HF.out


theorem list61_put {W0 w : World} {O P : Nat} {bs : List Int} {bad : Bool} (E : S61 → List Int × Bool) (xs : List S61) (A : Option Addr) (c : Nat)
    (hC : Kd.C k61 W0 A xs.length xs) (hP : Cap w O P) (good : S61 → Prop) (hg : ∀ x ∈ xs, good x) (hlen : xs.length ≤ 1048576) (hE : Each W0 O P 20 (fun x v => good x ∧ ∃ cs, v = .agg cs.toArray ∧ k61.K W0 x cs) E) (h : St W0 w O bs bad (lenE E xs)) :
    Calls Try.prog 19 #[.pointer (some ⟨O, 0, none⟩), .slice A xs.length c, .func (.func 20) #[] #[.pointer (some ⟨P, 0, none⟩)]] w (Wrote W0 w O bs bad (lenE E xs)) := by
  have H := Lib.hid h
  have HE := Lib.hid hE
  have HP := Lib.hid hP
  have HC := Lib.hid hC
  have HG := Lib.hid hg
  clear h hE hP hC hg
  go_enter Try.func19, Try.ntmps19
  go_wp2_with fail
  refine (num_put [(xs.length : Int)] (by simp) H.out.fst 1 rfl _ rfl _ rfl).mono ?_
  rintro e w1 h1
  obtain rfl := h1.1
  have H1 := Lib.hid h1
  have HP1 := Lib.hid (HP.out.keep h1.2.2)
  have HS := Lib.hid (H.out.snd h1)
  clear h1
  go_wp2_with fail
  go_loopw [15] (fun i wr => ∃ k : Nat, k ≤ xs.length ∧ i = .int .i64 k ∧ LR W0 w1 O (bs ++ (numsE [(xs.length : Int)]).1) (bad || (numsE [(xs.length : Int)]).2) E xs k wr) (fun i _ => xs.length - (intOf i).toNat)
  case atStart => exact ⟨0, Nat.zero_le _, rfl, by simpa [listE] using HS.out.ws, KW.refl _ _⟩
  case round =>
    obtain ⟨k, hk, rfl, hlr⟩ := hrel
    have HL := Lib.hid hlr
    clear hlr
    by_cases hlt : k < xs.length
    · obtain ⟨x, hx⟩ : ∃ x, xs[k]? = some x := ⟨_, List.getElem?_eq_getElem hlt⟩
      have hkw : KW W0.heap.size W0 wr := H.out.kw.trans (H1.out.2.2.trans HL.out.kw)
      have hC : Kd.C k61 wr A xs.length xs := Kd.C_below HC.out (hkw.below (Nat.le_refl _))
      obtain ⟨ad, c0, rfl, _, hK0, hc0⟩ := Kd.C_get HC.out z61 k (by omega) (by omega)
      have hrx : xs.getD (k : Int).toNat z61 = x := by simp [hx]
      rw [hrx] at hK0
      clear hrx hC
      obtain ⟨A1, c1, rfl, _, _⟩ := k61_open hK0
      have hkc : ∀ a v, W0.cell? a = some v → wr.cell? a = some v := fun a v ha => ((hkw.below (Nat.le_refl _)).cell (World.block_lt_of_cell? W0 a ha)).trans ha
      have g0 := hkc _ _ (hc0 0 _ rfl)
      have g1 := hkc _ _ (hc0 1 _ rfl)
      have hsz : Kd.sz k61 = 2 := rfl
      rw [hsz, Int.toNat_natCast, Nat.add_zero] at g0
      rw [hsz, Int.toNat_natCast, YtjellolccjiblaaW.PrintWords.add_field _ _ 1 (by omega)] at g1
      have HX := Lib.hid (And.intro hx hK0)
      clear hx hK0 hc0 hkc hsz hkw
      go_wp2_with fail
      refine (HE.out x _ _ _ _ ⟨HG.out x (List.mem_of_getElem? HX.out.1), _, rfl, HX.out.2⟩ ((HP1.out.keep HL.out.kw).keep ((KW.refl W0.heap.size _).alloc _)) ((HL.out.st HS.out HX.out.1).alloc _)).mono ?_
      rintro e2 w2 h2
      obtain rfl := h2.1
      have H2 := Lib.hid (HL.out.next HX.out.1 ((KW.refl _ _).alloc _) h2)
      clear h2
      go_wp2
      exact ⟨⟨k + 1, by omega, by go_num, H2.out⟩, by simp [intOf]; omega⟩
    · have hk' : k = xs.length := by omega
      subst hk'
      have hfin : Wrote W0 w O bs bad (lenE E xs) (.returned (.tuple #[])) wr := H1.out.seq ⟨rfl, by simpa using HL.out.ws, HL.out.kw⟩
      have HF := Lib.hid hfin
      clear hfin
      go_wp2
      go_end0
      exact HF.out


theorem list52_put {W0 w : World} {O P : Nat} {bs : List Int} {bad : Bool} (E : S52 → List Int × Bool) (xs : List S52) (A : Option Addr) (c : Nat)
    (hC : Kd.C k52 W0 A xs.length xs) (hP : Cap w O P) (good : S52 → Prop) (hg : ∀ x ∈ xs, good x) (hlen : xs.length ≤ 1048576) (hE : Each W0 O P 16 (fun x v => good x ∧ ∃ cs, v = .agg cs.toArray ∧ k52.K W0 x cs) E) (h : St W0 w O bs bad (lenE E xs)) :
    Calls Try.prog 15 #[.pointer (some ⟨O, 0, none⟩), .slice A xs.length c, .func (.func 16) #[] #[.pointer (some ⟨P, 0, none⟩)]] w (Wrote W0 w O bs bad (lenE E xs)) := by
  have H := Lib.hid h
  have HE := Lib.hid hE
  have HP := Lib.hid hP
  have HC := Lib.hid hC
  have HG := Lib.hid hg
  clear h hE hP hC hg
  go_enter Try.func15, Try.ntmps15
  go_wp2_with fail
  refine (num_put [(xs.length : Int)] (by simp) H.out.fst 1 rfl _ rfl _ rfl).mono ?_
  rintro e w1 h1
  obtain rfl := h1.1
  have H1 := Lib.hid h1
  have HP1 := Lib.hid (HP.out.keep h1.2.2)
  have HS := Lib.hid (H.out.snd h1)
  clear h1
  go_wp2_with fail
  go_loopw [15] (fun i wr => ∃ k : Nat, k ≤ xs.length ∧ i = .int .i64 k ∧ LR W0 w1 O (bs ++ (numsE [(xs.length : Int)]).1) (bad || (numsE [(xs.length : Int)]).2) E xs k wr) (fun i _ => xs.length - (intOf i).toNat)
  case atStart => exact ⟨0, Nat.zero_le _, rfl, by simpa [listE] using HS.out.ws, KW.refl _ _⟩
  case round =>
    obtain ⟨k, hk, rfl, hlr⟩ := hrel
    have HL := Lib.hid hlr
    clear hlr
    by_cases hlt : k < xs.length
    · obtain ⟨x, hx⟩ : ∃ x, xs[k]? = some x := ⟨_, List.getElem?_eq_getElem hlt⟩
      have hkw : KW W0.heap.size W0 wr := H.out.kw.trans (H1.out.2.2.trans HL.out.kw)
      have hC : Kd.C k52 wr A xs.length xs := Kd.C_below HC.out (hkw.below (Nat.le_refl _))
      obtain ⟨ad, c0, rfl, _, hK0, hc0⟩ := Kd.C_get HC.out z52 k (by omega) (by omega)
      have hrx : xs.getD (k : Int).toNat z52 = x := by simp [hx]
      rw [hrx] at hK0
      clear hrx hC
      obtain ⟨A1, c1, rfl, _, _⟩ := k52_open hK0
      have hkc : ∀ a v, W0.cell? a = some v → wr.cell? a = some v := fun a v ha => ((hkw.below (Nat.le_refl _)).cell (World.block_lt_of_cell? W0 a ha)).trans ha
      have g0 := hkc _ _ (hc0 0 _ rfl)
      have g1 := hkc _ _ (hc0 1 _ rfl)
      have g2 := hkc _ _ (hc0 2 _ rfl)
      have g3 := hkc _ _ (hc0 3 _ rfl)
      have g4 := hkc _ _ (hc0 4 _ rfl)
      have g5 := hkc _ _ (hc0 5 _ rfl)
      have hsz : Kd.sz k52 = 6 := rfl
      rw [hsz, Int.toNat_natCast, Nat.add_zero] at g0
      rw [hsz, Int.toNat_natCast, YtjellolccjiblaaW.PrintWords.add_field _ _ 1 (by omega)] at g1
      rw [hsz, Int.toNat_natCast, YtjellolccjiblaaW.PrintWords.add_field _ _ 2 (by omega)] at g2
      rw [hsz, Int.toNat_natCast, YtjellolccjiblaaW.PrintWords.add_field _ _ 3 (by omega)] at g3
      rw [hsz, Int.toNat_natCast, YtjellolccjiblaaW.PrintWords.add_field _ _ 4 (by omega)] at g4
      rw [hsz, Int.toNat_natCast, YtjellolccjiblaaW.PrintWords.add_field _ _ 5 (by omega)] at g5
      have HX := Lib.hid (And.intro hx hK0)
      clear hx hK0 hc0 hkc hsz hkw
      go_wp2_with fail
      refine (HE.out x _ _ _ _ ⟨HG.out x (List.mem_of_getElem? HX.out.1), _, rfl, HX.out.2⟩ ((HP1.out.keep HL.out.kw).keep ((KW.refl W0.heap.size _).alloc _)) ((HL.out.st HS.out HX.out.1).alloc _)).mono ?_
      rintro e2 w2 h2
      obtain rfl := h2.1
      have H2 := Lib.hid (HL.out.next HX.out.1 ((KW.refl _ _).alloc _) h2)
      clear h2
      go_wp2
      exact ⟨⟨k + 1, by omega, by go_num, H2.out⟩, by simp [intOf]; omega⟩
    · have hk' : k = xs.length := by omega
      subst hk'
      have hfin : Wrote W0 w O bs bad (lenE E xs) (.returned (.tuple #[])) wr := H1.out.seq ⟨rfl, by simpa using HL.out.ws, HL.out.kw⟩
      have HF := Lib.hid hfin
      clear hfin
      go_wp2
      go_end0
      exact HF.out


theorem list44_put {W0 w : World} {O P : Nat} {bs : List Int} {bad : Bool} (E : S44 → List Int × Bool) (xs : List S44) (A : Option Addr) (c : Nat)
    (hC : Kd.C k44 W0 A xs.length xs) (hP : Cap w O P) (good : S44 → Prop) (hg : ∀ x ∈ xs, good x) (hlen : xs.length ≤ 1048576) (hE : Each W0 O P 13 (fun x v => good x ∧ ∃ cs, v = .agg cs.toArray ∧ k44.K W0 x cs) E) (h : St W0 w O bs bad (lenE E xs)) :
    Calls Try.prog 12 #[.pointer (some ⟨O, 0, none⟩), .slice A xs.length c, .func (.func 13) #[] #[.pointer (some ⟨P, 0, none⟩)]] w (Wrote W0 w O bs bad (lenE E xs)) := by
  have H := Lib.hid h
  have HE := Lib.hid hE
  have HP := Lib.hid hP
  have HC := Lib.hid hC
  have HG := Lib.hid hg
  clear h hE hP hC hg
  go_enter Try.func12, Try.ntmps12
  go_wp2_with fail
  refine (num_put [(xs.length : Int)] (by simp) H.out.fst 1 rfl _ rfl _ rfl).mono ?_
  rintro e w1 h1
  obtain rfl := h1.1
  have H1 := Lib.hid h1
  have HP1 := Lib.hid (HP.out.keep h1.2.2)
  have HS := Lib.hid (H.out.snd h1)
  clear h1
  go_wp2_with fail
  go_loopw [15] (fun i wr => ∃ k : Nat, k ≤ xs.length ∧ i = .int .i64 k ∧ LR W0 w1 O (bs ++ (numsE [(xs.length : Int)]).1) (bad || (numsE [(xs.length : Int)]).2) E xs k wr) (fun i _ => xs.length - (intOf i).toNat)
  case atStart => exact ⟨0, Nat.zero_le _, rfl, by simpa [listE] using HS.out.ws, KW.refl _ _⟩
  case round =>
    obtain ⟨k, hk, rfl, hlr⟩ := hrel
    have HL := Lib.hid hlr
    clear hlr
    by_cases hlt : k < xs.length
    · obtain ⟨x, hx⟩ : ∃ x, xs[k]? = some x := ⟨_, List.getElem?_eq_getElem hlt⟩
      have hkw : KW W0.heap.size W0 wr := H.out.kw.trans (H1.out.2.2.trans HL.out.kw)
      have hC : Kd.C k44 wr A xs.length xs := Kd.C_below HC.out (hkw.below (Nat.le_refl _))
      obtain ⟨ad, c0, rfl, _, hK0, hc0⟩ := Kd.C_get HC.out z44 k (by omega) (by omega)
      have hrx : xs.getD (k : Int).toNat z44 = x := by simp [hx]
      rw [hrx] at hK0
      clear hrx hC
      obtain ⟨A1, c1, rfl, _, _⟩ := k44_open hK0
      have hkc : ∀ a v, W0.cell? a = some v → wr.cell? a = some v := fun a v ha => ((hkw.below (Nat.le_refl _)).cell (World.block_lt_of_cell? W0 a ha)).trans ha
      have g0 := hkc _ _ (hc0 0 _ rfl)
      have g1 := hkc _ _ (hc0 1 _ rfl)
      have hsz : Kd.sz k44 = 2 := rfl
      rw [hsz, Int.toNat_natCast, Nat.add_zero] at g0
      rw [hsz, Int.toNat_natCast, YtjellolccjiblaaW.PrintWords.add_field _ _ 1 (by omega)] at g1
      have HX := Lib.hid (And.intro hx hK0)
      clear hx hK0 hc0 hkc hsz hkw
      go_wp2_with fail
      refine (HE.out x _ _ _ _ ⟨HG.out x (List.mem_of_getElem? HX.out.1), _, rfl, HX.out.2⟩ ((HP1.out.keep HL.out.kw).keep ((KW.refl W0.heap.size _).alloc _)) ((HL.out.st HS.out HX.out.1).alloc _)).mono ?_
      rintro e2 w2 h2
      obtain rfl := h2.1
      have H2 := Lib.hid (HL.out.next HX.out.1 ((KW.refl _ _).alloc _) h2)
      clear h2
      go_wp2
      exact ⟨⟨k + 1, by omega, by go_num, H2.out⟩, by simp [intOf]; omega⟩
    · have hk' : k = xs.length := by omega
      subst hk'
      have hfin : Wrote W0 w O bs bad (lenE E xs) (.returned (.tuple #[])) wr := H1.out.seq ⟨rfl, by simpa using HL.out.ws, HL.out.kw⟩
      have HF := Lib.hid hfin
      clear hfin
      go_wp2
      go_end0
      exact HF.out


end Go.Proofs.Ytjellolccjiblaa
