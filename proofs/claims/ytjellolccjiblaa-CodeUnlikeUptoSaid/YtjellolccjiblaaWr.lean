import Derived.Test.YtjellolccjiblaaChecked
import Derived.WalkKit
import Derived.WalkSpells
import Derived.WalkLawsBesides
import Derived.Deep.QuietTactic
import Derived.BigQuiet
import Derived.Lib.Hide
import Derived.Deep.RegionWith
import Derived.Deep.RegionLaw
import Derived.Test.YtjellolccjiblaaWWords
namespace Go.Proofs.Ytjellolccjiblaa
open Go.RowKit
open YtjellolccjiblaaW.PrintWords (nums ReadsInt rd own_slice own_typed)

theorem cell_at {w : World} {g t : Nat} {cs : Array Value} {fz : Nat × Nat} (h : w.heap[g]? = some (.cells cs t fz)) (j : Nat) : w.cell? ⟨g, j, none⟩ = cs[j]? := by simp [World.cell?, h]
theorem frozen_at {w : World} {g t : Nat} {cs : Array Value} (h : w.heap[g]? = some (.cells cs t (0, 0))) (j : Nat) : w.frozen? ⟨g, j, none⟩ = false := by simp [World.frozen?, h]
theorem ne_types {w : World} {g g' t t' : Nat} {cs cs' : Array Value} {fz fz' : Nat × Nat} (h : w.heap[g]? = some (.cells cs t fz)) (h' : w.heap[g']? = some (.cells cs' t' fz')) (hn : t ≠ t') : g ≠ g' := by
  rintro rfl
  rw [h] at h'
  injection h' with h'
  injection h' with _ h'
  exact hn h'
theorem heap_set_same {w : World} {g t : Nat} {cs : Array Value} {fz : Nat × Nat} (h : w.heap[g]? = some (.cells cs t fz)) (j : Nat) (v : Value) :
    (w.setCell ⟨g, j, none⟩ v).heap[g]? = some (.cells (cs.setIfInBounds j v) t fz) := by
  simp [World.setCell, Array.getElem?_modify, h]
theorem lt_of {w : World} {i : Nat} {o : Obj} (h : w.heap[i]? = some o) : i < w.heap.size := (Array.getElem?_eq_some_iff.1 h).1
theorem pw_cell_alloc (w : World) (o : Obj) (a : Addr) {v : Value} (h : w.cell? a = some v) : (w.alloc o).cell? a = some v :=
  (((Below.refl w.heap.size w).alloc (Nat.le_refl _) o).cell (World.block_lt_of_cell? w a h)).trans h
theorem below_drewN' {B : Nat} (w : World) (n : Nat) : Below B w (w.drewN n) := ⟨rfl, rfl, rfl, Nat.le_refl _, fun _ _ => rfl⟩

/-! ### the writer's state -/
def WS (w : World) (B O : Nat) (bs : List Int) (bad : Bool) : Prop :=
  B ≤ O ∧ ∃ v, w.heap[O]? = some (.cells #[v, .bool bad] 71 (0, 0)) ∧ w.ownsRow B 5 1 v bs.length (nums .u8 bs)

def WT (o : Option Obj) : Prop := ∃ cs t fz, o = some (.cells cs t fz) ∧ (t = 71 ∨ t = 5)

/-- only writers' blocks from B on have turned -/
structure KW (B : Nat) (w w' : World) : Prop where
  os : w'.os = w.os
  tape : w'.tape = w.tape
  output : w'.output = w.output
  size : w.heap.size ≤ w'.heap.size
  block : ∀ i, i < w.heap.size → (i < B ∨ ¬ WT w.heap[i]?) → w'.heap[i]? = w.heap[i]?

theorem KW.refl (B : Nat) (w : World) : KW B w w := ⟨rfl, rfl, rfl, Nat.le_refl _, fun _ _ _ => rfl⟩
theorem KW.trans {B : Nat} {a b c : World} (h : KW B a b) (k : KW B b c) : KW B a c :=
  ⟨k.os.trans h.os, k.tape.trans h.tape, k.output.trans h.output, Nat.le_trans h.size k.size, fun i hi hn => by
    have e := h.block i hi hn
    rw [k.block i (Nat.lt_of_lt_of_le hi h.size) (by rw [e]; exact hn), e]⟩
theorem KW.of_below {B : Nat} {a b : World} (h : Below a.heap.size a b) : KW B a b := ⟨h.os, h.tape, h.output, h.size, fun i hi _ => h.block i hi⟩
theorem KW.alloc {B : Nat} {a w : World} (h : KW B a w) (o : Obj) : KW B a (w.alloc o) := h.trans (.of_below ((Below.refl _ _).alloc (Nat.le_refl _) o))
theorem KW.below {B : Nat} {a w : World} (h : KW B a w) (hB : B ≤ a.heap.size) : Below B a w := ⟨h.os, h.tape, h.output, h.size, fun k hk => h.block k (by omega) (.inl hk)⟩
theorem KW.keep {B : Nat} {a w : World} (h : KW B a w) {i t : Nat} {cs : Array Value} {fz : Nat × Nat} (hi : a.heap[i]? = some (.cells cs t fz)) (ht : t ≠ 71 ∧ t ≠ 5) : w.heap[i]? = some (.cells cs t fz) :=
  (h.block i (lt_of hi) (.inr (fun ⟨cs', t', fz', he, h'⟩ => by rw [hi] at he; injection he with he; injection he with _ he; rw [← he] at h'; exact h'.elim ht.1 ht.2))).trans hi
theorem KW.setO {B : Nat} {a w : World} (h : KW B a w) {O : Nat} {cs : Array Value} (hO : w.heap[O]? = some (.cells cs 71 (0, 0))) (hB : B ≤ O) (j : Nat) (v : Value) : KW B a (w.setCell ⟨O, j, none⟩ v) :=
  h.trans ⟨rfl, rfl, rfl, by simp [World.setCell], fun i hi hn => Below.heap_setCell _ _ _ _ (by
    intro he
    have he : i = O := he
    subst he
    rcases hn with hn | hn
    · omega
    · exact hn ⟨cs, 71, _, hO, .inl rfl⟩)⟩
theorem KW.grown {B : Nat} {a w w' : World} (h : KW B a w) {row : Option Nat} (hg : w.grownBy w' row) (hr : ∀ k, row = some k → B ≤ k ∧ ∃ cs, w.heap[k]? = some (.cells cs 5 (0, 0))) : KW B a w' :=
  h.trans ⟨hg.os, hg.tape, hg.output, hg.size, fun i hi hn => hg.block i hi (fun e => by
    obtain ⟨h1, cs, h2⟩ := hr i e.symm
    rcases hn with hn | hn
    · omega
    · exact hn ⟨cs, 5, _, h2, .inr rfl⟩)⟩

theorem own_facts {w : World} {B : Nat} {v : Value} {n : Nat} {xs : List Value} (h : w.ownsRow B 5 1 v n xs) : ∀ k, v.ownBlock = some k → B ≤ k ∧ ∃ cs, w.heap[k]? = some (.cells cs 5 (0, 0)) := by
  intro k hk
  rcases h.2 with ⟨rfl, _⟩ | ⟨g, cap, cur, rfl, hg, hh, r⟩
  · simp [Value.ownBlock] at hk
  · have : g = k := by simpa [Value.ownBlock] using hk
    subst this
    exact ⟨hg, cur, hh⟩

theorem WS.keep {w w' : World} {B O : Nat} {bs : List Int} {bad : Bool} (h : WS w B O bs bad) (hb : Below w.heap.size w w') : WS w' B O bs bad := by
  obtain ⟨h1, v, hO, hown⟩ := h
  exact ⟨h1, v, (hb.block O (lt_of hO)).trans hO, hown.kept ⟨hb.os, hb.tape, hb.output, hb.size, fun k hk _ => hb.block k hk⟩ (row := none) (by cases v.ownBlock <;> simp)⟩
theorem WS.alloc {w : World} {B O : Nat} {bs : List Int} {bad : Bool} (h : WS w B O bs bad) (o : Obj) : WS (w.alloc o) B O bs bad := h.keep ((Below.refl _ _).alloc (Nat.le_refl _) o)

/-- what an append leaves: the state's cells there, and the state behind the store -/
theorem WS.appended {w X w1 : World} {B O : Nat} {bs es : List Int} {bad : Bool} {v v1 : Value} (hB : B ≤ O) (hO : w.heap[O]? = some (.cells #[v, .bool bad] 71 (0, 0))) (hown : w.ownsRow B 5 1 v bs.length (nums .u8 bs))
    (hX : Below w.heap.size w X) (hg : X.grownBy w1 v.ownBlock) (hown1 : w1.ownsRow B 5 1 v1 (bs.length + es.length) (nums .u8 bs ++ nums .u8 es)) :
    (w1.cell? ⟨O, 0, none⟩ = some v ∧ w1.frozen? ⟨O, 0, none⟩ = false) ∧ WS (w1.setCell ⟨O, 0, none⟩ v1) B O (bs ++ es) bad ∧ KW B w (w1.setCell ⟨O, 0, none⟩ v1) := by
  have hOX := (hX.block O (lt_of hO)).trans hO
  have hne : some O ≠ v.ownBlock := fun he => by
    obtain ⟨_, cs, hcs⟩ := own_facts hown O he.symm
    exact ne_types hO hcs (by decide) rfl
  have hO1 := (hg.block O (lt_of hOX) hne).trans hOX
  have hXf : ∀ k, v.ownBlock = some k → B ≤ k ∧ ∃ cs, X.heap[k]? = some (.cells cs 5 (0, 0)) := fun k hk => by
    obtain ⟨h1, cs, h2⟩ := own_facts hown k hk
    exact ⟨h1, cs, (hX.block k (lt_of h2)).trans h2⟩
  refine ⟨⟨by rw [cell_at hO1]; rfl, frozen_at hO1 0⟩, ⟨hB, v1, heap_set_same hO1 0 v1, ?_⟩, ((KW.of_below hX).grown hg hXf).setO hO1 hB 0 v1⟩
  have : w1.ownsRow B 5 1 v1 (bs ++ es).length (nums .u8 (bs ++ es)) := by
    rw [List.length_append]
    simpa [nums] using hown1
  obtain ⟨h1, h2⟩ := this
  refine ⟨h1, ?_⟩
  rcases h2 with h2 | ⟨g, cap, cur, rfl, hg', hh, r⟩
  · exact .inl h2
  · exact .inr ⟨g, cap, cur, rfl, hg', (Below.heap_setCell _ _ _ _ (ne_types hh hO1 (by decide))).trans hh, r⟩

/-- the flag set -/
theorem WS.set_bad {w : World} {B O : Nat} {bs : List Int} {bad b : Bool} (h : WS w B O bs bad) : WS (w.setCell ⟨O, 1, none⟩ (.bool b)) B O bs b ∧ KW B w (w.setCell ⟨O, 1, none⟩ (.bool b)) := by
  obtain ⟨h1, v, hO, hown⟩ := h
  refine ⟨⟨h1, v, heap_set_same hO 1 _, ?_⟩, (KW.refl _ _).setO hO h1 1 _⟩
  obtain ⟨e1, e2⟩ := hown
  refine ⟨e1, ?_⟩
  rcases e2 with e2 | ⟨g, cap, cur, rfl, hg', hh, r⟩
  · exact .inl e2
  · exact .inr ⟨g, cap, cur, rfl, hg', (Below.heap_setCell _ _ _ _ (ne_types hh hO (by decide))).trans hh, r⟩

/-! ### what is written -/
def vi (n : Nat) : List Int := if n < 128 then [(n : Int)] else ((n % 128 + 128 : Nat) : Int) :: vi (n / 128)
  termination_by n
  decreasing_by omega

def mostN : Int := 1099511627776
def numsE : List Int → List Int × Bool
  | [] => ([], false)
  | n :: ns => if n < 0 ∨ mostN < n then ([], true) else (vi n.toNat ++ (numsE ns).1, (numsE ns).2)

end Go.Proofs.Ytjellolccjiblaa
