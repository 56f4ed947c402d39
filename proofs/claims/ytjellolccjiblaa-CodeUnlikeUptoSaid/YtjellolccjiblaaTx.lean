import Derived.Test.YtjellolccjiblaaNum
namespace Go.Proofs.Ytjellolccjiblaa
open Go.RowKit
open YtjellolccjiblaaW.PrintWords (nums own_slice bytesOf print_append_str bytesOf_length)

def seqE (a b : List Int × Bool) : List Int × Bool := (a.1 ++ b.1, a.2 || b.2)
def textE (s : ByteArray) : List Int × Bool := seqE (numsE [(s.size : Int)]) (bytesOf s, false)

/-- a literal list of numbers, as the variadic's block -/
theorem num_lit (B O : Nat) (ns : List Int) (bs : List Int) (bad : Bool) (w : World) (hl : ns.length ≤ 100) (hroom : bs.length + (numsE ns).1.length ≤ 70368744177664)
    (hB : B ≤ w.heap.size) (h : WS w B O bs bad) (n : Nat) (hn : ns.length = n) (cs : Array Value) (hcs : cs = (nums .i64 ns).toArray) :
    Calls Try.prog 18 #[.pointer (some ⟨O, 0, none⟩), .slice (some ⟨w.heap.size, 0, none⟩) n n] (w.alloc (.cells cs 3)) fun e w' => e = .returned (.tuple #[]) ∧ WS w' B O (bs ++ (numsE ns).1) (bad || (numsE ns).2) ∧ KW B w w' := by
  subst hn hcs
  refine (num_any B O w.heap.size ns bs bad (w.alloc (.cells (nums .i64 ns).toArray 3)) hl hroom (by simp; omega) (heap_alloc_new w _) (h.alloc _)).mono fun e w' hh => ?_
  exact ⟨hh.1, hh.2.1, ((KW.refl _ _).alloc _).trans hh.2.2⟩

theorem text_any (B O : Nat) (s : ByteArray) (bs : List Int) (bad : Bool) (w : World) (hroom : bs.length + (textE s).1.length ≤ 70368744177664) (hB : B ≤ w.heap.size) (h : WS w B O bs bad) :
    Calls Try.prog 14 #[.pointer (some ⟨O, 0, none⟩), .string s] w fun e w' => e = .returned (.tuple #[]) ∧ WS w' B O (bs ++ (textE s).1) (bad || (textE s).2) ∧ KW B w w' := by
  have hs1 : s.size ≤ 70368744177664 := by
    simp [textE, seqE, bytesOf_length] at hroom
    omega
  have hr1 : bs.length + (numsE [(s.size : Int)]).1.length ≤ 70368744177664 := by
    simp [textE, seqE] at hroom
    omega
  have HR := Lib.hid hroom
  have HR1 := Lib.hid hr1
  have H := Lib.hid h
  clear hroom h hr1
  go_enter Try.func14, Try.ntmps14
  go_wp2_with fail
  refine (num_lit B O [(s.size : Int)] bs bad _ (by simp) HR1.out hB H.out 1 rfl _ rfl).mono ?_
  rintro e w1 ⟨rfl, hws, hkw⟩
  obtain ⟨hBO, v, hO, hown⟩ := hws
  obtain ⟨n0, hn0⟩ : ∃ n0, (bs ++ (numsE [(s.size : Int)]).1).length = n0 := ⟨_, rfl⟩
  obtain ⟨A, cp, rfl⟩ := own_slice hown
  have hO' := hO
  have hown' := hown
  rw [hn0] at hO
  have c0 : w1.cell? ⟨O, 0, none⟩ = some (.slice A n0 cp) := by rw [cell_at hO]; rfl
  have HV := Lib.hid (And.intro hO' (And.intro hown' (And.intro hkw hn0)))
  have hsz : B ≤ w1.heap.size := by have := hkw.size; omega
  clear hO hown hO' hown' hkw hn0
  have hl : (bs ++ (numsE [(s.size : Int)]).1).length + s.size ≤ 140737488355328 := by
    have := HR.out
    simp [textE, seqE, bytesOf_length] at this
    simp
    omega
  have HL := Lib.hid hl
  clear hl
  go_wp2_with (at_builtin; go_must (refine print_append_str (w0 := w1) B rfl (.tmp 13) (.tmp 14) 31 9 5 rfl Try.underlying31 Try.underlying9 Try.info5 _ _ s (by exact HV.out.2.2.2 ▸ rfl) rfl HV.out.2.1 (Below.refl _ _) hsz HL.out ?_); intro v1 w2 hown2 hb2 hg2; obtain ⟨A1, cp1, rfl⟩ := own_slice hown2; have hq := WS.appended (es := bytesOf s) hBO HV.out.1 HV.out.2.1 (Below.refl _ _) hg2 (by rw [← List.length_append]; simpa [nums] using hown2); have q1 := hq.1.1; have q2 := hq.1.2; have HQ := Lib.hid hq.2; clear hq hown2 hb2 hg2)
  go_end0
  refine ⟨rfl, ?_, HV.out.2.2.1.trans HQ.out.2⟩
  have := HQ.out.1
  simpa [textE, seqE] using this

end Go.Proofs.Ytjellolccjiblaa
