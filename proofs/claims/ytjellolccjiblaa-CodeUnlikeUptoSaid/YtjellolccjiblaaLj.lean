import Derived.Test.YtjellolccjiblaaLi
namespace Go.Proofs.Ytjellolccjiblaa
open Go.RowKit
open YtjellolccjiblaaW.PrintWords (nums own_slice bytesOf print_append_str bytesOf_length Kd)
open PCodeUnlike

theorem list90_put {W0 w : World} {O P : Nat} {bs : List Int} {bad : Bool} (E : List S93 → List Int × Bool) (xs : List (List S93)) (A : Option Addr) (c : Nat)
    (hC : Kd.C (Kd.slice 93 k93) W0 A xs.length xs) (hP : Cap w O P) (good : List S93 → Prop) (hg : ∀ x ∈ xs, good x) (hlen : xs.length ≤ 1048576) (hE : Each W0 O P 28 (fun x v => good x ∧ ∃ A1 c1, v = .slice A1 x.length c1 ∧ k93.C W0 A1 x.length x) E) (h : St W0 w O bs bad (lenE E xs)) :
    Calls Try.prog 27 #[.pointer (some ⟨O, 0, none⟩), .slice A xs.length c, .func (.func 28) #[] #[.pointer (some ⟨P, 0, none⟩)]] w (Wrote W0 w O bs bad (lenE E xs)) := by
  have H := Lib.hid h
  have HE := Lib.hid hE
  have HP := Lib.hid hP
  have HC := Lib.hid hC
  have HG := Lib.hid hg
  clear h hE hP hC hg
  go_enter Try.func27, Try.ntmps27
  go_wp2_with fail
  refine (num_put [(xs.length : Int)] (by simp) H.out.fst 1 rfl _ rfl _ rfl).mono ?_
  rintro e w1 h1
  obtain rfl := h1.1
  have H1 := Lib.hid h1
  have HP1 := Lib.hid (HP.out.keep h1.2.2)
  have HS := Lib.hid (H.out.snd h1)
  clear h1
  go_wp2_with fail
  go_loopw [15] (fun i wr => ∃ k : Nat, k ≤ xs.length ∧ i = .int .i64 k ∧ LR W0 w1 O (bs ++ (numsE [(xs.length : Int)]).1) (bad || (numsE [(xs.length : Int)]).2) E xs k wr) (fun i _ => xs.length - (intOf i).toNat)
  case atStart => exact ⟨0, Nat.zero_le _, rfl, by simpa [listE] using HS.out.ws, KW.refl _ _⟩
  case round =>
    obtain ⟨k, hk, rfl, hlr⟩ := hrel
    have HL := Lib.hid hlr
    clear hlr
    by_cases hlt : k < xs.length
    · obtain ⟨x, hx⟩ : ∃ x, xs[k]? = some x := ⟨_, List.getElem?_eq_getElem hlt⟩
      have hkw : KW W0.heap.size W0 wr := H.out.kw.trans (H1.out.2.2.trans HL.out.kw)
      obtain ⟨ad, A1, c1, rfl, hc0, _, hK0⟩ := at_L5 HC.out k (by omega) (by omega)
      have hrx : rd_L5 xs (k : Int) = x := by simp [rd_L5, hx]
      rw [hrx] at hK0 hc0
      clear hrx
      have g0 : wr.cell? (ad.add k) = some (.slice A1 x.length c1) := ((hkw.below (Nat.le_refl _)).cell (World.block_lt_of_cell? W0 _ hc0)).trans hc0
      have HX := Lib.hid (And.intro hx hK0)
      clear hx hK0 hc0 hkw
      go_wp2_with fail
      refine (HE.out x _ _ _ _ ⟨HG.out x (List.mem_of_getElem? HX.out.1), _, _, rfl, HX.out.2⟩ (HP1.out.keep HL.out.kw) (HL.out.st HS.out HX.out.1)).mono ?_
      rintro e2 w2 h2
      obtain rfl := h2.1
      have H2 := Lib.hid (HL.out.next HX.out.1 (KW.refl _ _) h2)
      clear h2
      go_wp2
      exact ⟨⟨k + 1, by omega, by go_num, H2.out⟩, by simp [intOf]; omega⟩
    · have hk' : k = xs.length := by omega
      subst hk'
      have hfin : Wrote W0 w O bs bad (lenE E xs) (.returned (.tuple #[])) wr := H1.out.seq ⟨rfl, by simpa using HL.out.ws, HL.out.kw⟩
      have HF := Lib.hid hfin
      clear hfin
      go_wp2
      go_end0
      exact HF.out

theorem list3_put {W0 w : World} {O P : Nat} {bs : List Int} {bad : Bool} (E : Int → List Int × Bool) (xs : List Int) (A : Option Addr) (c : Nat)
    (hC : Kd.C (Kd.int .i64) W0 A xs.length xs) (hP : Cap w O P) (hlen : xs.length ≤ 1048576) (hE : Each W0 O P 32 (fun x v => v = .int .i64 x) E) (h : St W0 w O bs bad (lenE E xs)) :
    Calls Try.prog 31 #[.pointer (some ⟨O, 0, none⟩), .slice A xs.length c, .func (.func 32) #[] #[.pointer (some ⟨P, 0, none⟩)]] w (Wrote W0 w O bs bad (lenE E xs)) := by
  have H := Lib.hid h
  have HE := Lib.hid hE
  have HP := Lib.hid hP
  have HC := Lib.hid hC
  clear h hE hP hC
  go_enter Try.func31, Try.ntmps31
  go_wp2_with fail
  refine (num_put [(xs.length : Int)] (by simp) H.out.fst 1 rfl _ rfl _ rfl).mono ?_
  rintro e w1 h1
  obtain rfl := h1.1
  have H1 := Lib.hid h1
  have HP1 := Lib.hid (HP.out.keep h1.2.2)
  have HS := Lib.hid (H.out.snd h1)
  clear h1
  go_wp2_with fail
  go_loopw [15] (fun i wr => ∃ k : Nat, k ≤ xs.length ∧ i = .int .i64 k ∧ LR W0 w1 O (bs ++ (numsE [(xs.length : Int)]).1) (bad || (numsE [(xs.length : Int)]).2) E xs k wr) (fun i _ => xs.length - (intOf i).toNat)
  case atStart => exact ⟨0, Nat.zero_le _, rfl, by simpa [listE] using HS.out.ws, KW.refl _ _⟩
  case round =>
    obtain ⟨k, hk, rfl, hlr⟩ := hrel
    have HL := Lib.hid hlr
    clear hlr
    by_cases hlt : k < xs.length
    · obtain ⟨x, hx⟩ : ∃ x, xs[k]? = some x := ⟨_, List.getElem?_eq_getElem hlt⟩
      have hkw : KW W0.heap.size W0 wr := H.out.kw.trans (H1.out.2.2.trans HL.out.kw)
      obtain ⟨ad, c0, rfl, _, hK0, hc0⟩ := Kd.C_get HC.out 0 k (by omega) (by omega)
      have hrx : xs.getD (k : Int).toNat 0 = x := by simp [hx]
      rw [hrx] at hK0
      obtain rfl := hK0
      have g0 := hc0 0 _ rfl
      have hsz : Kd.sz (Kd.int .i64) = 1 := rfl
      rw [hsz, Int.toNat_natCast, Nat.add_zero, Nat.mul_one] at g0
      have g0 : wr.cell? (ad.add k) = some (.int .i64 x) := ((hkw.below (Nat.le_refl _)).cell (World.block_lt_of_cell? W0 _ g0)).trans g0
      have HX := Lib.hid hx
      clear hx hc0 hkw
      go_wp2_with fail
      refine (HE.out x _ _ _ _ rfl (HP1.out.keep HL.out.kw) (HL.out.st HS.out HX.out)).mono ?_
      rintro e2 w2 h2
      obtain rfl := h2.1
      have H2 := Lib.hid (HL.out.next HX.out (KW.refl _ _) h2)
      clear h2
      go_wp2
      exact ⟨⟨k + 1, by omega, by go_num, H2.out⟩, by simp [intOf]; omega⟩
    · have hk' : k = xs.length := by omega
      subst hk'
      have hfin : Wrote W0 w O bs bad (lenE E xs) (.returned (.tuple #[])) wr := H1.out.seq ⟨rfl, by simpa using HL.out.ws, HL.out.kw⟩
      have HF := Lib.hid hfin
      clear hfin
      go_wp2
      go_end0
      exact HF.out
end Go.Proofs.Ytjellolccjiblaa
