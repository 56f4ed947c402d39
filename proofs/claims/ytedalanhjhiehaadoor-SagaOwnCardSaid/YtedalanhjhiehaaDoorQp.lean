import Derived.Test.YtedalanhjhiehaaDoorQo
import Derived.WalkMore
import Derived.ScopeJumps
set_option linter.unusedSimpArgs false
namespace Go.Proofs.YtedalanhjhiehaaDoor
open Go.RowKit
open YtedalanhjhiehaaDoorW.PrintWords (nums ReadsInt rd own_slice own_typed Kd)

theorem appendI_wp {o : Oper} {a : Act} {K : Act → World → Prop} {Q : Exit → Act → World → Prop} {W w0 : World} {B : Nat} {s x : Operand} {sl : SL} {xs : List Int} {y : Int} (hg : o.guard = none)
    (ho : o.op = .call { callee := .builtin .append, args := #[s, x], argTypes := #[22, 22] }) (hs : a.eval s = .slice sl.a xs.length sl.c) (hx : a.eval x = .slice (some ⟨W.heap.size, 0, none⟩) 1 1)
    (HO : OwI W B sl xs) (HB : Below B w0 W) (hb : B ≤ W.heap.size) (hl : xs.length ≤ 1000)
    (h : ∀ sl' w1, OwI w1 B sl' (xs ++ [y]) → Below B w0 w1 → W.grownBy w1 (sl.v xs.length).ownBlock → K (a.put o.dst (.slice sl'.a (xs ++ [y]).length sl'.c)) w1) : Oper.wp Tryd.prog o a (W.alloc (.cells #[.int .i64 y] 3)) K Q := by
  have hw : Region.wanted o (yielded #[] a.tmps) = true := by simp [Region.wanted, hg]
  have := Kd.R_append_step (P := Tryd.prog) (ops := #[]) (Q := Q) (Kc := K) kI (w0 := w0) (W := W) B hw s x 22 3 (.int .i64 0) 8 ho Tryd.underlying22 infoI rfl (by decide) (by decide) _ xs y [.int .i64 y] (fun _ => True) (fun _ => False) hs hx rfl (fun _ hk => hk.elim) (fun _ _ => trivial) HO.r HB hb (by omega) (fun v1 w1 hR hB hgr _ => by
    obtain ⟨sl', rfl⟩ := kdR_sl hR
    exact h sl' w1 ⟨hR⟩ hB hgr)
  rwa [if_pos hw] at this

theorem readyTo_bit (set : Nat) (r : List Nat) (k j : Nat) (h : (readyTo set r k).testBit j = true) : j < k ∧ mayB set r j = true := by
  induction k with
  | zero => simp [readyTo] at h
  | succ k ih =>
    unfold readyTo at h
    split at h
    · rename_i hm
      rw [Nat.testBit_or, Bool.or_eq_true] at h
      rcases h with h | h
      · obtain ⟨h1, h2⟩ := ih h
        exact ⟨by omega, h2⟩
      · rw [Nat.testBit_two_pow] at h
        have : k = j := by simpa using h
        subst this
        exact ⟨by omega, hm⟩
    · obtain ⟨h1, h2⟩ := ih h
      exact ⟨by omega, h2⟩
/-- the set with the next node is greater -/
theorem set_grows (n : Nat) (xs : List (Int × Int)) (set : Nat) (hn : n ≤ 64) (h0 : readyN n xs set ≠ 0) (hs : set < 18446744073709551616) : set < set ||| 2 ^ Lib.ctz 64 (readyN n xs set) ∧ set ||| 2 ^ Lib.ctz 64 (readyN n xs set) < 18446744073709551616 := by
  have hr := readyTo_small set (aheadN n xs) n hn
  have hb := ctz_bit _ hr h0
  have hlt := ctz_lt _ hr h0
  obtain ⟨_, hm⟩ := readyTo_bit set _ n _ hb
  refine ⟨?_, or_small hs (pow_small hlt)⟩
  have hz : set.testBit (Lib.ctz 64 (readyTo set (aheadN n xs) n)) = false := by
    simp only [mayB, Bool.and_eq_true, decide_eq_true_eq] at hm
    have := hm.1
    rw [Nat.and_one_is_mod] at this
    rw [Nat.testBit_eq_decide_div_mod_eq, this]
    rfl
  unfold readyN
  generalize Lib.ctz 64 (readyTo set (aheadN n xs) n) = i at hz
  have hle : set ≤ set ||| 2 ^ i := Nat.left_le_or
  refine Nat.lt_of_le_of_ne hle fun he => ?_
  have h1 : (set ||| 2 ^ i).testBit i = true := by rw [Nat.testBit_or, Nat.testBit_two_pow]; simp
  rw [← he, hz] at h1
  cases h1
def ordRun (n : Nat) (xs : List (Int × Int)) : Nat → Nat → Nat → Nat
  | 0, _, c => c
  | f + 1, set, c => if readyN n xs set = 0 then c else ordRun n xs f (set ||| 2 ^ Lib.ctz 64 (readyN n xs set)) (c + 1)
theorem ordRun_stop {n : Nat} {xs : List (Int × Int)} {f set c : Nat} (h : readyN n xs set = 0) : ordRun n xs f set c = c := by
  cases f with
  | zero => rfl
  | succ f => unfold ordRun; rw [if_pos h]
theorem ordRun_step {n : Nat} {xs : List (Int × Int)} {f set c : Nat} (h : readyN n xs set ≠ 0) (hf : 0 < f) : ordRun n xs f set c = ordRun n xs (f - 1) (set ||| 2 ^ Lib.ctz 64 (readyN n xs set)) (c + 1) := by
  cases f with
  | zero => omega
  | succ f => rw [ordRun, if_neg h]; rfl
/-- what Order answers -/
def orderE (n : Nat) (xs : List (Int × Int)) : Int := if checkB n xs then (if ordRun n xs 18446744073709551616 0 0 < n then 21 else 0) else 20
end Go.Proofs.YtedalanhjhiehaaDoor
