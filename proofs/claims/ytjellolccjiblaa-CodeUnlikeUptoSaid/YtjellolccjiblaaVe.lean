import Derived.Test.YtjellolccjiblaaTx
import Derived.Test.YtjellolccjiblaaKa
namespace Go.Proofs.Ytjellolccjiblaa
open Go.RowKit
open YtjellolccjiblaaW.PrintWords (nums own_slice bytesOf print_append_str bytesOf_length)
open PCodeUnlike

def Wrote (W0 w : World) (O : Nat) (bs : List Int) (bad : Bool) (r : List Int × Bool) (e : Ending) (w' : World) : Prop :=
  e = .returned (.tuple #[]) ∧ WS w' W0.heap.size O (bs ++ r.1) (bad || r.2) ∧ KW W0.heap.size w w'

theorem Wrote.of {W0 w w1 w' : World} {O : Nat} {bs : List Int} {bad : Bool} {r : List Int × Bool} {e : Ending} (h : Wrote W0 w1 O bs bad r e w') (k : KW W0.heap.size w w1) : Wrote W0 w O bs bad r e w' :=
  ⟨h.1, h.2.1, k.trans h.2.2⟩
theorem Wrote.seq {W0 w w1 w2 : World} {O : Nat} {bs : List Int} {bad : Bool} {r r' : List Int × Bool} {e e' : Ending} (h : Wrote W0 w O bs bad r e w1) (h' : Wrote W0 w1 O (bs ++ r.1) (bad || r.2) r' e' w2) : Wrote W0 w O bs bad (seqE r r') e' w2 :=
  ⟨h'.1, by simpa [seqE, Bool.or_assoc] using h'.2.1, h.2.2.trans h'.2.2⟩

/-- the standing of a writer: the state, the way from the first world, the room for what comes -/
structure St (W0 w : World) (O : Nat) (bs : List Int) (bad : Bool) (r : List Int × Bool) : Prop where
  room : bs.length + r.1.length ≤ 70368744177664
  kw : KW W0.heap.size W0 w
  ws : WS w W0.heap.size O bs bad

theorem St.size {W0 w : World} {O : Nat} {bs : List Int} {bad : Bool} {r : List Int × Bool} (h : St W0 w O bs bad r) : W0.heap.size ≤ w.heap.size := h.kw.size
theorem St.alloc {W0 w : World} {O : Nat} {bs : List Int} {bad : Bool} {r : List Int × Bool} (h : St W0 w O bs bad r) (o : Obj) : St W0 (w.alloc o) O bs bad r := ⟨h.room, h.kw.alloc o, h.ws.alloc o⟩
theorem St.fst {W0 w : World} {O : Nat} {bs : List Int} {bad : Bool} {r r' : List Int × Bool} (h : St W0 w O bs bad (seqE r r')) : St W0 w O bs bad r :=
  ⟨by have := h.room; simp [seqE] at this; omega, h.kw, h.ws⟩
theorem St.snd {W0 w w1 : World} {O : Nat} {bs : List Int} {bad : Bool} {r r' : List Int × Bool} {e : Ending} (h : St W0 w O bs bad (seqE r r')) (h' : Wrote W0 w O bs bad r e w1) : St W0 w1 O (bs ++ r.1) (bad || r.2) r' :=
  ⟨by have := h.room; simp [seqE] at this; simp; omega, h.kw.trans h'.2.2, h'.2.1⟩

theorem num_put {W0 w : World} {O : Nat} {bs : List Int} {bad : Bool} (ns : List Int) (hl : ns.length ≤ 100) (h : St W0 w O bs bad (numsE ns)) (n : Nat) (hn : ns.length = n) (cs : Array Value) (hcs : cs = (nums .i64 ns).toArray) (g : Nat) (hg : g = w.heap.size) :
    Calls Try.prog 18 #[.pointer (some ⟨O, 0, none⟩), .slice (some ⟨g, 0, none⟩) n n] (w.alloc (.cells cs 3)) (Wrote W0 w O bs bad (numsE ns)) :=
  hg ▸ num_lit W0.heap.size O ns bs bad w hl h.room h.size h.ws n hn cs hcs
theorem text_put {W0 w : World} {O : Nat} {bs : List Int} {bad : Bool} (s : ByteArray) (h : St W0 w O bs bad (textE s)) :
    Calls Try.prog 14 #[.pointer (some ⟨O, 0, none⟩), .string s] w (Wrote W0 w O bs bad (textE s)) :=
  text_any W0.heap.size O s bs bad w h.room h.size h.ws

def E49 (x : S49) : List Int × Bool := seqE (numsE [x.f0, x.f1, x.f2]) (textE x.f3)

theorem version_put {W0 w : World} {O : Nat} {bs : List Int} {bad : Bool} (x0 x1 x2 : Int) (x3 : ByteArray) (h : St W0 w O bs bad (E49 ⟨x0, x1, x2, x3⟩)) :
    Calls Try.prog 17 #[.pointer (some ⟨O, 0, none⟩), .agg #[.int .i64 x0, .int .i64 x1, .int .i64 x2, .string x3]] w (Wrote W0 w O bs bad (E49 ⟨x0, x1, x2, x3⟩)) := by
  have H := Lib.hid h
  clear h
  go_enter Try.func17, Try.ntmps17
  go_wp2_with fail
  obtain ⟨wa, hwa⟩ : ∃ wa, wa = w.alloc (.cells #[.int .i64 x0, .int .i64 x1, .int .i64 x2, .string x3] 49) := ⟨_, rfl⟩
  have Ha := Lib.hid (hwa ▸ (H.out.alloc _ : St W0 (w.alloc (.cells #[.int .i64 x0, .int .i64 x1, .int .i64 x2, .string x3] 49)) O bs bad _))
  have hb : wa.heap[w.heap.size]? = some (.cells #[.int .i64 x0, .int .i64 x1, .int .i64 x2, .string x3] 49 (0, 0)) := hwa ▸ heap_alloc_new w _
  have hk : KW W0.heap.size w wa := hwa ▸ (KW.refl _ _).alloc _
  rw [← hwa]
  refine (num_put [x0, x1, x2] (by simp) Ha.out.fst 3 rfl _ rfl _ (by rw [hwa]; simp)).mono ?_
  rintro e w1 h1
  obtain rfl := h1.1
  have c3 : w1.cell? ⟨w.heap.size, 3, none⟩ = some (.string x3) := by rw [cell_at (h1.2.2.keep hb (by decide))]; rfl
  have H1 := Lib.hid h1
  have HK := Lib.hid hk
  clear h1 hb hwa hk
  go_wp2_with fail
  refine (text_put x3 (Ha.out.snd H1.out)).mono ?_
  rintro e w2 h2
  obtain rfl := h2.1
  have H2 := Lib.hid ((H1.out.seq h2).of HK.out)
  clear h2
  go_wp2
  go_end0
  exact H2.out
end Go.Proofs.Ytjellolccjiblaa
