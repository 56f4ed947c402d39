import Derived.Test.YtedalanhjhiehaaDoorQm
import Derived.Laws.BitsAllLaws
set_option linter.unusedSimpArgs false
namespace Go.Proofs.YtedalanhjhiehaaDoor
open Go.RowKit
open YtedalanhjhiehaaDoorW.PrintWords (nums ReadsInt rd own_slice own_typed Kd)

/-- node k may come next -/
def mayB (set : Nat) (r : List Nat) (k : Nat) : Bool := decide ((set / 2 ^ k) &&& 1 = 0) && decide (r.getD k 0 &&& (18446744073709551615 - set) = 0)
def readyTo (set : Nat) (r : List Nat) : Nat → Nat
  | 0 => 0
  | k + 1 => if mayB set r k then readyTo set r k ||| 2 ^ k else readyTo set r k
def readyN (n : Nat) (xs : List (Int × Int)) (set : Nat) : Nat := readyTo set (aheadN n xs) n

theorem and_one {set k : Nat} (hs : set < 18446744073709551616) : bits BinOp.and IntKind.u64 ((set : Int) / 2 ^ k) 1 = (((set / 2 ^ k) &&& 1 : Nat) : Int) := by
  have e : (set : Int) / 2 ^ k = ((set / 2 ^ k : Nat) : Int) := by simp
  rw [e]
  exact bits_and_u64_nat (set / 2 ^ k) 1 (Nat.lt_of_le_of_lt (Nat.div_le_self _ _) hs) (by decide)
theorem readyTo_small (set : Nat) (r : List Nat) (k : Nat) (hk : k ≤ 64) : readyTo set r k < 18446744073709551616 := by
  induction k with
  | zero => exact (by decide : (0 : Nat) < 18446744073709551616)
  | succ k ih =>
    unfold readyTo
    split
    · exact or_small (ih (by omega)) (pow_small (by omega))
    · exact ih (by omega)
theorem readyTo_or {set : Nat} {r : List Nat} {k : Nat} (hk : k < 64) (h : mayB set r k = true) : bits BinOp.or IntKind.u64 (readyTo set r k : Int) (IntKind.u64.wrap (2 ^ k)) = ((readyTo set r (k + 1) : Nat) : Int) := by
  rw [wrap_pow hk, or_pow hk (readyTo_small set r k (by omega))]
  simp [readyTo, h]
theorem readyTo_skip {set : Nat} {r : List Nat} {k : Nat} (h : mayB set r k = false) : readyTo set r k = readyTo set r (k + 1) := by simp [readyTo, h]
theorem u_at {w : World} {B n c : Nat} {A : Option Addr} {r : List Nat} (h : kU.R 82 w B (fun _ => True) (.slice A n c) (castL r)) (hr : r.length = n) (k : Nat) (hk : k < n) : ∃ ad, A = some ad ∧ w.cell? (ad.add k) = some (.int .u64 (r.getD k 0 : Nat)) := by
  obtain ⟨A', c', he, _, hC⟩ := Kd.R_reads h
  injection he with h1 h2 _
  subst h1
  obtain ⟨ad, e, hc⟩ := Kd.at_int (k := .u64) hC (k : Int) (by omega) (by rw [castL_length, hr]; omega)
  refine ⟨ad, e, ?_⟩
  rw [Int.toNat_natCast] at hc
  rw [hc]
  have : YtedalanhjhiehaaDoorW.PrintWords.rd (castL r) (k : Int) = ((r.getD k 0 : Nat) : Int) := by
    simp [YtedalanhjhiehaaDoorW.PrintWords.rd, castL, List.getD_eq_getElem?_getD]
    cases r[k]? <;> simp
  rw [this]

set_option maxHeartbeats 4000000 in
theorem ready_any (n : Nat) (s : SL) (xs : List (Int × Int)) (set : Nat) (w : World) (h : RdP w s xs) (hl : xs.length ≤ 1000) (hn : checkB n xs = true) (hset : set < 18446744073709551616) :
    Calls Tryd.prog 43 #[graphV n s xs, .int .u64 set] w (Ret w (.int .u64 (readyN n xs set))) := by
  obtain ⟨A, cp⟩ := s
  have hn64 : n ≤ 64 := by simp [checkB] at hn; exact hn.1
  obtain ⟨w2, hw2⟩ : ∃ w2, w2 = w.alloc (.cells #[.int .i64 n, .slice A xs.length cp] 76) := ⟨_, rfl⟩
  have hb2 : Below w.heap.size w w2 := by rw [hw2]; exact (Below.refl _ _).alloc (Nat.le_refl _) _
  have H := Lib.hid (h.below hb2)
  have HB2 := Lib.hid hb2
  have HN := Lib.hid hn
  have HSm : Hid (Small (aheadN n xs)) := Lib.hid (aheadN_small n xs (fun x hx => by
    simp only [checkB, Bool.and_eq_true, List.all_eq_true, decide_eq_true_eq] at hn
    have := hn.2 x hx
    simp only [okE, Bool.and_eq_true, decide_eq_true_eq] at this
    omega))
  clear h hb2 hn
  unfold graphV SL.v at *
  go_enter Tryd.func43, Tryd.ntmps43
  go_wp2_with (go_at_call 46; rw [← hw2]; refine (ahead_any n ⟨A, cp⟩ xs w2 H.out hl HN.out).mono ?_; rintro e w3 ⟨⟨B, c3⟩, rfl, hR, hb⟩; simp only [SL.v] at hR ⊢; have HR := Lib.hid (And.intro hR hb); clear hR hb hw2)
  go_loopw [5, 11] (fun o i wr => ∃ k : Nat, k ≤ n ∧ i = .int .i64 k ∧ o = .int .u64 (readyTo set (aheadN n xs) k) ∧ wr = w3) (fun _ i _ => n - (intOf i).toNat)
  case atStart => exact ⟨0, Nat.zero_le _, rfl, rfl, rfl⟩
  case round =>
    obtain ⟨k, hk, rfl, rfl, rfl⟩ := hrel
    by_cases hlt : k < n
    · obtain ⟨ad, he, hC⟩ := u_at HR.out.1 (aheadN_length n xs) k hlt
      obtain rfl : B = some ad := he
      obtain ⟨q, hq⟩ : ∃ q, q = (aheadN n xs).getD k 0 := ⟨_, rfl⟩
      rw [← hq] at hC
      have hqs : q < 18446744073709551616 := by rw [hq]; exact small_getD HSm.out k
      have h1 := and_one (k := k) hset
      have h2 := u64_andNot_nat q set hqs hset
      by_cases c1 : (set / 2 ^ k) &&& 1 = 0
      · by_cases c2 : q &&& (18446744073709551615 - set) = 0
        · have hm : mayB set (aheadN n xs) k = true := by simp only [mayB, ← hq, c1, c2, decide_true, Bool.and_self]
          rw [c1] at h1
          rw [c2] at h2
          have HM := Lib.hid (readyTo_or (show k < 64 by omega) hm)
          clear hm c1 c2 hq hqs
          go_wp2
          exact ⟨⟨k + 1, by omega, by go_num, by rw [HM.out], trivial⟩, by simp [intOf]; omega⟩
        · have hm : mayB set (aheadN n xs) k = false := by simp only [mayB, ← hq, c1, c2, decide_false, Bool.and_false]
          rw [c1] at h1
          have h3 : (bits BinOp.andNot IntKind.u64 (q : Int) (set : Int) == 0) = false := by rw [h2]; simp; exact c2
          have HM := Lib.hid (readyTo_skip hm)
          clear hm c1 c2 hq hqs h2
          go_wp2
          exact ⟨⟨k + 1, by omega, by go_num, by rw [← HM.out], trivial⟩, by simp [intOf]; omega⟩
      · have hm : mayB set (aheadN n xs) k = false := by simp only [mayB, c1, decide_false, Bool.false_and]
        have h3 : ¬ bits BinOp.and IntKind.u64 ((set : Int) / 2 ^ k) 1 = 0 := by rw [h1]; simp only [Int.natCast_eq_zero]; exact c1
        have h4 : (bits BinOp.and IntKind.u64 ((set : Int) / 2 ^ k) 1 == 0) = false := beq_eq_false_iff_ne.2 h3
        have HM := Lib.hid (readyTo_skip hm)
        clear hm c1 hq hqs h2 h1
        go_wp2
        exact ⟨⟨k + 1, by omega, by go_num, by rw [← HM.out], trivial⟩, by simp [intOf]; omega⟩
    · have hk' : k = n := by omega
      subst hk'
      have HF := Lib.hid (HB2.out.trans (HR.out.2.mono HB2.out.size))
      go_wp2
      go_ret
      exact ⟨rfl, HF.out⟩
end Go.Proofs.YtedalanhjhiehaaDoor
