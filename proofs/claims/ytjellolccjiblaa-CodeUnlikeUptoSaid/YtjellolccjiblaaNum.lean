import Derived.Test.YtjellolccjiblaaWr
namespace Go.Proofs.Ytjellolccjiblaa
open Go.RowKit
open YtjellolccjiblaaW.PrintWords (nums own_slice)

theorem Try.info5 : (Try.prog.info? 5).map (fun i => (i.zero, i.size, i.bytes)) = some (some (.int .u8 0), 1, 1) := by kernel_rfl

theorem vi_big {n : Nat} (h : 128 ≤ n) : vi n = ((n % 128 + 128 : Nat) : Int) :: vi (n / 128) := by
  rw [vi, if_neg (by omega)]
theorem vi_small {n : Nat} (h : n < 128) : vi n = [(n : Int)] := by
  rw [vi, if_pos h]

/-- one byte more: behind 'at_builtin' -/
theorem wpList_put_byte {ops : Array Oper} {rest : List Oper} {o : Oper} {a : Act} {Q : Exit → Act → World → Prop} {w X : World} (hgd : o.guard = none) (s x : Operand)
    (ho : o.op = .call { callee := .builtin .append, args := #[s, x], argTypes := #[31, 31] }) (B O : Nat) (bs : List Int) (n : Nat) (hn : bs.length = n) (bad : Bool) (A : Option Addr) (cp : Nat) (b : Int) (N : Nat)
    (hB : B ≤ O) (hO : w.heap[O]? = some (.cells #[.slice A n cp, .bool bad] 71 (0, 0))) (hown : w.ownsRow B 5 1 (.slice A n cp) n (nums .u8 bs)) (hBw : B ≤ w.heap.size)
    (hX : Below w.heap.size w X) (hs : a.eval s = .slice A n cp) (hx : a.eval x = .slice (some ⟨N, 0, none⟩) 1 1) (hN : X.cell? ⟨N, 0, none⟩ = some (.int .u8 b)) (hlen : n ≤ 70368744177664)
    (h : ∀ A1 cp1 w1, w1.cell? ⟨O, 0, none⟩ = some (.slice A n cp) ∧ w1.frozen? ⟨O, 0, none⟩ = false →
      WS (w1.setCell ⟨O, 0, none⟩ (.slice A1 (n + 1) cp1)) B O (bs ++ [b]) bad ∧ KW B w (w1.setCell ⟨O, 0, none⟩ (.slice A1 (n + 1) cp1)) → wpList Try.prog ops Q rest (a.put o.dst (.slice A1 (n + 1) cp1)) w1) :
    wpList Try.prog ops Q (o :: rest) a X := by
  obtain ⟨i0, hi, hz0, hz1, hz2⟩ := info_parts Try.info5
  have hownX : X.ownsRow B 5 1 (.slice A n cp) n (nums .u8 bs) := hown.kept ⟨hX.os, hX.tape, hX.output, hX.size, fun k hk _ => hX.block k hk⟩ (row := none) (by cases (Value.slice A n cp).ownBlock <;> simp)
  have hc : ∀ j u, ([.int .u8 b] : List Value)[j]? = some u → X.cell? ((⟨N, 0, none⟩ : Addr).add j) = some u := by
    intro j u hj
    match j with
    | 0 => simp at hj; subst hj; exact hN
    | j + 1 => simp at hj
  refine wpList_append_own X hgd s x 31 ho B 5 i0 (.int .u8 0) 1 1 Try.underlying31 hi hz0 hz1 hz2 rfl (by decide) _ n (nums .u8 bs) hs hownX ⟨N, 0, none⟩ 1 1 [.int .u8 b] hx rfl hc (by intro u hu; simp at hu; subst hu; rfl) (by simp only [maxLen]; omega) (by omega) (by have := hX.size; omega) ?_
  intro v1 w1 hown1 hg _
  obtain ⟨A1, cp1, rfl⟩ := own_slice hown1
  subst hn
  have := WS.appended (es := [b]) hB hO hown hX hg hown1
  exact h A1 cp1 w1 this.1 this.2

theorem or_byte (m : Nat) : bits BinOp.or IntKind.u8 ((m : Int) % 256) 128 = ((m % 128 + 128 : Nat) : Int) := by
  have h : ∀ x : Fin 256, bits BinOp.or IntKind.u8 ((x.val : Nat) : Int) 128 = ((x.val % 128 + 128 : Nat) : Int) := by decide +kernel
  have := h ⟨m % 256, by omega⟩
  simp only at this
  rw [show ((m : Int) % 256) = ((m % 256 : Nat) : Int) by omega, this, show m % 256 % 128 = m % 128 by omega]

theorem numsE_at {ns : List Int} {k : Nat} {x : Int} {es : List Int} (hes : ∀ rest, ns.drop k = rest → numsE ns = (es ++ (numsE rest).1, (numsE rest).2)) (hx : ns[k]? = some x) (h : ¬ (x < 0 ∨ mostN < x)) :
    numsE ns = (es ++ (vi x.toNat ++ (numsE (ns.drop (k + 1))).1), (numsE (ns.drop (k + 1))).2) := by
  have := hes _ rfl
  obtain ⟨hlt, hx'⟩ := List.getElem?_eq_some_iff.1 hx
  rw [List.drop_eq_getElem_cons hlt, hx', show numsE (x :: ns.drop (k + 1)) = _ from if_neg h] at this
  exact this

/-- relation of num's outer loop -/
def NR (w : World) (B O : Nat) (ns : List Int) (bs : List Int) (bad : Bool) (k : Nat) (wr : World) : Prop :=
  ∃ es, (∀ rest, ns.drop k = rest → numsE ns = (es ++ (numsE rest).1, (numsE rest).2)) ∧ WS wr B O (bs ++ es) bad ∧ KW B w wr

theorem num_any (B O L : Nat) (ns : List Int) (bs : List Int) (bad : Bool) (w : World) (hl : ns.length ≤ 100) (hroom : bs.length + (numsE ns).1.length ≤ 70368744177664)
    (hB : B ≤ w.heap.size) (hL : w.heap[L]? = some (.cells (nums .i64 ns).toArray 3 (0, 0))) (h : WS w B O bs bad) :
    Calls Try.prog 18 #[.pointer (some ⟨O, 0, none⟩), .slice (some ⟨L, 0, none⟩) ns.length ns.length] w fun e w' => e = .returned (.tuple #[]) ∧ WS w' B O (bs ++ (numsE ns).1) (bad || (numsE ns).2) ∧ KW B w w' := by
  have HL := Lib.hid hL
  have HB := Lib.hid hB
  have HRm := Lib.hid hroom
  have H0 : NR w B O ns bs bad 0 w := ⟨[], fun rest hr => by rw [← hr]; simp, by simpa using h, KW.refl _ _⟩
  have H := Lib.hid H0
  clear hL hroom H0 h hB
  go_enter Try.func18, Try.ntmps18
  go_wp2
  go_loopw [8] (fun i wr => ∃ k : Nat, k ≤ ns.length ∧ i = .int .i64 k ∧ NR w B O ns bs bad k wr) (fun i _ => ns.length - (intOf i).toNat)
  case atStart => exact ⟨0, Nat.zero_le _, rfl, H.out⟩
  case round =>
    obtain ⟨k, hk, rfl, es, hes, hws, hkw⟩ := hrel
    by_cases hlt : k < ns.length
    · obtain ⟨x, hx⟩ : ∃ x, ns[k]? = some x := ⟨_, List.getElem?_eq_getElem hlt⟩
      have hc : wr.cell? ⟨L, k, none⟩ = some (.int .i64 x) := by
        rw [cell_at (hkw.keep HL.out (by decide))]
        simp [nums, hx]
      have HES := Lib.hid (And.intro hes (And.intro hws (And.intro hkw hx)))
      clear hes hws hkw hx
      by_cases hbad : x < 0 ∨ mostN < x
      · have hfin : numsE ns = (es, true) := by
          have := HES.out.1 _ rfl
          rw [List.drop_eq_getElem_cons hlt] at this
          have hx' : ns[k] = x := by have := HES.out.2.2.2; rw [List.getElem?_eq_getElem hlt] at this; exact Option.some.inj this
          rw [hx', show numsE (x :: ns.drop (k + 1)) = ([], true) from if_pos hbad] at this
          simpa using this
        obtain ⟨hBO, v, hO, hown⟩ := HES.out.2.1
        have c1 : wr.cell? ⟨O, 1, none⟩ = some (.bool bad) := by rw [cell_at hO]; rfl
        have f1 := frozen_at hO 1
        have HF := Lib.hid hfin
        clear hfin hO hown
        by_cases hn : x < 0
        · go_wp2
          refine bodyPost_ret (results_none rfl _ _ _) rfl ⟨rfl, ?_⟩
          rw [HF.out, Bool.or_true]
          exact ⟨HES.out.2.1.set_bad.1, HES.out.2.2.1.trans HES.out.2.1.set_bad.2⟩
        · have hn' : decide (mostN < x) = true := by simp; omega
          unfold mostN at hn'
          go_wp2
          refine bodyPost_ret (results_none rfl _ _ _) rfl ⟨rfl, ?_⟩
          rw [HF.out, Bool.or_true]
          exact ⟨HES.out.2.1.set_bad.1, HES.out.2.2.1.trans HES.out.2.1.set_bad.2⟩
      · obtain ⟨x0, rfl⟩ := Int.eq_ofNat_of_zero_le (show 0 ≤ x by omega)
        have hb1 : (x0 : Int) ≤ mostN := by omega
        have hb2 : x0 ≤ 1099511627776 := by unfold mostN at hb1; omega
        have hn' : decide ((1099511627776 : Int) < x0) = false := by simp; omega
        have HNS := Lib.hid (numsE_at HES.out.1 HES.out.2.2.2 hbad)
        clear hbad hb1
        go_wp2
        go_loopw [5] (fun mv wi => ∃ m : Nat, mv = .int .i64 m ∧ m ≤ 1099511627776 ∧ ∃ pre, vi x0 = pre ++ vi m ∧ WS wi B O (bs ++ es ++ pre) bad ∧ KW B w wi) (fun mv _ => (intOf mv).toNat)
        case atStart => exact ⟨x0, rfl, hb2, [], rfl, by simpa using HES.out.2.1, HES.out.2.2.1⟩
        case round =>
          obtain ⟨m, rfl, hm, pre, hpre, hws2, hkw2⟩ := hrel
          obtain ⟨hBO, v, hO, hown⟩ := hws2
          obtain ⟨n0, hn0⟩ : ∃ n0, (bs ++ es ++ pre).length = n0 := ⟨_, rfl⟩
          obtain ⟨A, cp, rfl⟩ := own_slice hown
          rw [hn0] at hO hown
          have c0 : wr.cell? ⟨O, 0, none⟩ = some (.slice A n0 cp) := by rw [cell_at hO]; rfl
          have hBw := HB.out
          have hsz : B ≤ wr.heap.size := by have := hkw2.size; omega
          have hlen : n0 ≤ 70368744177664 := by
            have e1 := HRm.out
            have e2 := congrArg List.length hpre
            rw [HNS.out] at e1
            simp at e1 e2 hn0
            omega
          have hNf := Lib.hid (fun (b : Int) => show (wr.alloc (.cells #[.int .u8 b] 5)).cell? ⟨wr.heap.size, 0, none⟩ = some (.int .u8 b) by rw [cell_at (heap_alloc_new wr _)]; rfl)
          have HV := Lib.hid (And.intro hpre (And.intro hO (And.intro hown (And.intro hkw2 hn0))))
          clear hpre hO hown hkw2 hn0 hBw
          by_cases hge : 128 ≤ m
          · have hge' : decide ((128 : Int) ≤ m) = true := by simp; omega
            go_wp2_with (at_builtin; go_must (refine wpList_put_byte rfl (.tmp 29) (.tmp 33) rfl B O _ n0 HV.out.2.2.2.2 bad A cp _ wr.heap.size hBO HV.out.2.1 HV.out.2.2.1 hsz ((Below.refl _ _).alloc (Nat.le_refl _) _) rfl rfl (by exact (hNf.out _)) hlen ?_); rintro A1 cp1 w1 ⟨q1, q2⟩ hq; have HQ := Lib.hid hq; clear hq)
            refine ⟨⟨m / 128, by simp, by omega, pre ++ [((m % 128 + 128 : Nat) : Int)], ?_, ?_, ?_⟩, by simp [intOf]; omega⟩
            · rw [HV.out.1, vi_big hge]; simp
            · have := HQ.out.1
              rw [or_byte] at this
              simpa using this
            · exact HV.out.2.2.2.1.trans HQ.out.2
          · have hge' : decide ((128 : Int) ≤ m) = false := by simp; omega
            go_wp2_with (at_builtin; go_must (refine wpList_put_byte rfl (.tmp 41) (.tmp 44) rfl B O _ n0 HV.out.2.2.2.2 bad A cp _ wr.heap.size hBO HV.out.2.1 HV.out.2.2.1 hsz ((Below.refl _ _).alloc (Nat.le_refl _) _) rfl rfl (by exact (hNf.out _)) hlen ?_); rintro A1 cp1 w1 ⟨q1, q2⟩ hq; have HQ := Lib.hid hq; clear hq)
            refine ⟨⟨k + 1, by omega, by go_num, es ++ (pre ++ [(m : Int)]), ?_, by simpa using HQ.out.1, HV.out.2.2.2.1.trans HQ.out.2⟩, by simp [intOf]; omega⟩
            intro rest hr
            have e1 := HNS.out
            rw [hr] at e1
            rw [e1, show ((x0 : Int)).toNat = x0 by omega, HV.out.1, vi_small (by omega)]
            simp
    · have hk' : k = ns.length := by omega
      have hfin := hes [] (by rw [hk']; simp)
      have hws' : WS wr B O (bs ++ (numsE ns).1) (bad || (numsE ns).2) := by
        rw [hfin]; simpa [numsE] using hws
      have HH := Lib.hid (And.intro hws' hkw)
      clear hes hws hkw hfin hws' hk'
      go_wp2
      go_end0
      exact ⟨rfl, HH.out⟩

end Go.Proofs.Ytjellolccjiblaa
