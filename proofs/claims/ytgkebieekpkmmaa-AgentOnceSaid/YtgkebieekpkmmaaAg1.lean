import Derived.Test.YtgkebieekpkmmaaChecked
import Derived.WalkKit
import Derived.WalkSpells
import Derived.WalkLawsBesides
import Derived.Deep.QuietTactic
import Derived.BigQuiet
import Derived.Lib.Hide
import Derived.Test.YtgkebieekpkmmaaGs
namespace Go.Proofs.Ytgkebieekpkmmaa
open Go.RowKit

def mkEnt (x : Int × Value × Nat) : MapEntry := ⟨.int .i64 x.1, x.2.1, x.2.2⟩
def lk (k : Int) : List (Int × Value × Nat) → Nat → Option (Nat × Value)
  | [], _ => none
  | x :: xs, i => if k == x.1 then some (i, x.2.1) else lk k xs (i + 1)

theorem findNow_ents (k : Int) (l : List (Int × Value × Nat)) : ∀ i, Instr.findNow (.int .i64) (.int .i64 k) (l.map mkEnt) i = some (lk k l i) := by
  induction l with
  | nil => intro i; rfl
  | cons x xs ih =>
    intro i
    simp only [List.map_cons, Instr.findNow, mkEnt, Instr.sameNow, lk, if_true]
    by_cases h : k = x.1
    · simp [h]
    · have h1 : (k == x.1) = false := by simp [h]
      rw [h1]
      simp only [Bool.false_eq_true, if_false]
      exact ih _

theorem checkKey_int (P : Program) (w : World) (b : Bool) (n : Nat) (t : TypeId) (q : IntKind) (k : Int) (ht : P.underlying t = some (.int q)) :
    (Instr.checkKey b (n + 1) t (.int q k)).run P w = .ok () w := by
  simp [Instr.checkKey, run_underlying ht]

theorem findKey_ents (P : Program) (w : World) (kt : TypeId) (k : Int) (l : List (Int × Value × Nat)) (hk : P.underlying kt = some (.int .i64)) :
    (Instr.findKey kt (.int .i64 k) (l.map mkEnt)).run P w = .ok (lk k l 0) w := by
  simp [Instr.findKey, run_underlying hk, findNow_ents]

theorem lookup_ents (P : Program) (w : World) (t kt et : TypeId) (r clock : Nat) (k : Int) (l : List (Int × Value × Nat)) (z : Value)
    (ht : P.underlying t = some (.map kt et)) (hk : P.underlying kt = some (.int .i64)) (hM : w.heap[r]? = some (.map (l.map mkEnt).toArray clock))
    (hz : (zeroValue et).run P w = .ok z w) :
    (Instr.lookup t (.map (some r)) (.int .i64 k) false).run P w = .ok (((lk k l 0).map (·.2)).getD z) w := by
  cases h : lk k l 0 with
  | none => simp [Instr.lookup, run_underlying ht, getObj, Sem.run, hM, checkKey_int P w _ 9999 kt .i64 k hk, findKey_ents P w kt k l hk, h, hz]
  | some x => simp [Instr.lookup, run_underlying ht, getObj, Sem.run, hM, checkKey_int P w _ 9999 kt .i64 k hk, findKey_ents P w kt k l hk, h]

def putObj (w : World) (r : Nat) (o : Obj) : World := { w with heap := w.heap.setIfInBounds r o }

theorem mapUpdate_push (P : Program) (w : World) (t kt et : TypeId) (r clock : Nat) (k : Int) (l : List (Int × Value × Nat)) (v : Value)
    (ht : P.underlying t = some (.map kt et)) (hk : P.underlying kt = some (.int .i64)) (hM : w.heap[r]? = some (.map (l.map mkEnt).toArray clock))
    (hn : lk k l 0 = none) :
    (Instr.mapUpdate t (.map (some r)) (.int .i64 k) v).run P w = .ok () (putObj w r (.map ((l ++ [(k, v, clock)]).map mkEnt).toArray (clock + 1))) := by
  simp [Instr.mapUpdate, run_underlying ht, getObj, setObj, Sem.run, hM, checkKey_int P w _ 9999 kt .i64 k hk, findKey_ents P w kt k l hk, hn, putObj, mkEnt]

theorem putObj_heap_ne (w : World) (r : Nat) (o : Obj) (i : Nat) (h : i ≠ r) : (putObj w r o).heap[i]? = w.heap[i]? := by
  simp only [putObj, Array.getElem?_setIfInBounds]
  rw [if_neg (by omega)]
theorem putObj_heap (w : World) (r : Nat) (o o' : Obj) (h : w.heap[r]? = some o') : (putObj w r o).heap[r]? = some o := by
  have := (Array.getElem?_eq_some_iff.1 h).1
  simp [putObj, this]
theorem putObj_size (w : World) (r : Nat) (o : Obj) : (putObj w r o).heap.size = w.heap.size := by simp [putObj]
theorem key_none (F M : Nat) (clock : Nat) (k : Int) (l : List (Int × Value × Nat)) (w : World) (hF : w.cell? ⟨F, 1, none⟩ = some (.map (some M))) (hM : w.heap[M]? = some (.map (l.map mkEnt).toArray clock)) (hn : lk k l 0 = none) :
    Calls Try.prog 10 #[.pointer (some ⟨F, 0, none⟩), .int .i64 k] w fun e w' => e = .returned (.tuple #[.bool false, .bool false]) ∧ ∃ n, w' = w.drewN n := by
  have hl := lookup_ents Try.prog w 41 3 49 M clock k l (.pointer none) (by kernel_rfl) (by kernel_rfl) hM (by kernel_rfl)
  rw [hn] at hl
  simp only [Option.map_none, Option.getD_none] at hl
  clear hM hn
  go_enter Try.func10, Try.ntmps10
  go_wp2
  go_quiet (fail)
  go_wp2
  go_ret2
  exact ⟨rfl, _, rfl⟩

theorem key_some (F M E i : Nat) (clock : Nat) (k : Int) (d : Bool) (l : List (Int × Value × Nat)) (w : World) (hF : w.cell? ⟨F, 1, none⟩ = some (.map (some M))) (hM : w.heap[M]? = some (.map (l.map mkEnt).toArray clock)) (hn : lk k l 0 = some (i, .pointer (some ⟨E, 0, none⟩))) (hE : w.cell? ⟨E, 4, none⟩ = some (.bool d)) :
    Calls Try.prog 10 #[.pointer (some ⟨F, 0, none⟩), .int .i64 k] w fun e w' => e = .returned (.tuple #[.bool (!d), .bool d]) ∧ ∃ n, w' = w.drewN n := by
  have hl := lookup_ents Try.prog w 41 3 49 M clock k l (.pointer none) (by kernel_rfl) (by kernel_rfl) hM (by kernel_rfl)
  rw [hn] at hl
  simp only [Option.map_some, Option.getD_some] at hl
  clear hM hn
  go_enter Try.func10, Try.ntmps10
  go_wp2
  go_quiet (fail)
  go_wp2
  go_ret2
  exact ⟨rfl, _, rfl⟩

theorem run_store_cx (P : Program) (w : World) (a : Addr) (x y : Nat) (m : Mode) : (store a (.complex .f64 x y) m).run P w = stored P w a (.complex .f64 x y) m := run_store P w a _ m rfl

theorem move_ok (F P cap : Nat) (z1 z2 t1 t2 r1 r2 : Nat) (a b ch : Int) (hs : cSumBits .add .f64 z1 z2 t1 t2 = some (r1, r2)) (hp : placeB r1 r2 = true) (ha : floatToIntVal .f64 r1 .i64 = some a) (hb : floatToIntVal .f64 r2 .i64 = some b)
    (w : World) (h0 : w.cell? ⟨F, 0, none⟩ = some (.slice (some ⟨P, 0, none⟩) 1 cap)) (hz : w.cell? ⟨P, 0, none⟩ = some (.complex .f64 z1 z2)) (h3 : w.cell? ⟨F, 3, none⟩ = some (.int .i64 ch)) (hc : 0 ≤ ch) (hc' : ch ≤ 1000)
    (f1 : w.frozen? ⟨P, 0, none⟩ = false) (f2 : w.frozen? ⟨F, 3, none⟩ = false) :
    Calls Try.prog 21 #[.pointer (some ⟨F, 0, none⟩), .int .i64 0, .complex .f64 t1 t2] w fun e w' => e = .returned (.int .i64 0) ∧ w' = (w.setCell ⟨P, 0, none⟩ (.complex .f64 r1 r2)).setCell ⟨F, 3, none⟩ (.int .i64 (ch + 1)) := by
  have k1 := fun (w : World) => run_complex_sum (P := Try.prog) w .add (.inl rfl) 26 .f64 z1 z2 t1 t2 r1 r2 hs
  have k2 := fun (w : World) (a : Addr) => run_store_cx Try.prog w a r1 r2 .plain
  have Ha := Lib.hid ha
  have Hb := Lib.hid hb
  clear hs ha hb
  go_enter Try.func21, Try.ntmps21
  go_wp2_with (go_at_call 11; refine (parts_ok _ _ a b hp Ha.out Hb.out _).mono ?_; rintro e w' ⟨rfl, rfl⟩)
  go_ret
  exact ⟨rfl, rfl⟩

/-! ### the fleet's state -/
structure Cfg where
  k : Int
  z0 : Nat × Nat
  z1 : Nat × Nat
  s : Nat × Nat

def negB (x : Nat) : Nat := Op.negFloat .f64 x

structure CfgOk (c : Cfg) : Prop where
  add : cSumBits .add .f64 c.z0.1 c.z0.2 c.s.1 c.s.2 = some (c.z1.1, c.z1.2)
  sub : cSumBits .add .f64 c.z1.1 c.z1.2 (negB c.s.1) (negB c.s.2) = some (c.z0.1, c.z0.2)
  p0 : placeB c.z0.1 c.z0.2 = true
  p1 : placeB c.z1.1 c.z1.2 = true
  i0 : ∃ a b, floatToIntVal .f64 c.z0.1 .i64 = some a ∧ floatToIntVal .f64 c.z0.2 .i64 = some b
  i1 : ∃ a b, floatToIntVal .f64 c.z1.1 .i64 = some a ∧ floatToIntVal .f64 c.z1.2 .i64 = some b

structure FSt where
  ent : Option Bool
  late : List Bool
  ch : Int

def zOf (c : Cfg) : Option Bool → Nat × Nat
  | some false => c.z1
  | _ => c.z0

def oCells (c : Cfg) : List Value := [.int .i64 c.k, .int .i64 0, .complex .f64 c.s.1 c.s.2, .bool false]
def uCells (c : Cfg) : List Value := [.int .i64 c.k, .int .i64 0, .complex .f64 0 0, .bool true]
def ordCells (c : Cfg) (u : Bool) : List Value := if u then uCells c else oCells c
def lateCells (c : Cfg) (l : List Bool) : List Value := l.flatMap (ordCells c)

/-- all but the blocks of S is as it was -/
structure KeepS (S : Nat → Prop) (w w' : World) : Prop where
  os : w'.os = w.os
  tape : w'.tape = w.tape
  output : w'.output = w.output
  size : w.heap.size ≤ w'.heap.size
  block : ∀ k, k < w.heap.size → ¬ S k → w'.heap[k]? = w.heap[k]?
theorem KeepS.refl (S : Nat → Prop) (w : World) : KeepS S w w := ⟨rfl, rfl, rfl, Nat.le_refl _, fun _ _ _ => rfl⟩
theorem KeepS.trans {S : Nat → Prop} {a b c : World} (h : KeepS S a b) (k : KeepS S b c) : KeepS S a c :=
  ⟨k.os.trans h.os, k.tape.trans h.tape, k.output.trans h.output, Nat.le_trans h.size k.size, fun i hi hn => (k.block i (Nat.lt_of_lt_of_le hi h.size) hn).trans (h.block i hi hn)⟩
theorem KeepS.of_below {S : Nat → Prop} {a b : World} (h : Below a.heap.size a b) : KeepS S a b := ⟨h.os, h.tape, h.output, h.size, fun i hi _ => h.block i hi⟩
theorem KeepS.alloc {S : Nat → Prop} {a w : World} (h : KeepS S a w) (o : Obj) : KeepS S a (w.alloc o) := h.trans (.of_below ((Below.refl _ _).alloc (Nat.le_refl _) o))
theorem KeepS.drewN {S : Nat → Prop} {a w : World} (h : KeepS S a w) (n : Nat) : KeepS S a (w.drewN n) := h.trans ⟨rfl, rfl, rfl, Nat.le_refl _, fun _ _ _ => rfl⟩
theorem KeepS.drew {S : Nat → Prop} {a w : World} (h : KeepS S a w) : KeepS S a w.drew := h.trans ⟨rfl, rfl, rfl, Nat.le_refl _, fun _ _ _ => rfl⟩
theorem KeepS.setCell {S : Nat → Prop} {a w : World} (h : KeepS S a w) {p : Addr} (hp : S p.block) (u : Value) : KeepS S a (w.setCell p u) :=
  h.trans ⟨rfl, rfl, rfl, by simp [World.setCell], fun k _ hn => Below.heap_setCell _ _ _ _ (by rintro rfl; exact hn hp)⟩
theorem KeepS.putObj {S : Nat → Prop} {a w : World} (h : KeepS S a w) {r : Nat} (hr : S r) (o : Obj) : KeepS S a (putObj w r o) :=
  h.trans ⟨rfl, rfl, rfl, by rw [putObj_size]; exact Nat.le_refl _, fun k _ hn => putObj_heap_ne _ _ _ _ (by rintro rfl; exact hn hr)⟩
theorem KeepS.grown {S : Nat → Prop} {a w w' : World} {row : Option Nat} (h : KeepS S a w) (hg : w.grownBy w' row) (hr : ∀ k, row = some k → S k) : KeepS S a w' :=
  h.trans ⟨hg.os, hg.tape, hg.output, hg.size, fun k hk hn => hg.block k hk (fun e => hn (hr k e.symm))⟩
theorem KeepS.below {S : Nat → Prop} {B : Nat} {a w : World} (h : KeepS S a w) (hB : B ≤ a.heap.size) (hS : ∀ i, S i → B ≤ i) : Below B a w :=
  ⟨h.os, h.tape, h.output, h.size, fun k hk => h.block k (by omega) (fun hs => by have := hS k hs; omega)⟩

def EntOk (w : World) (S : Nat → Prop) (c : Cfg) (ents : List (Int × Value × Nat)) : Option Bool → Prop
  | none => ents = []
  | some d => ∃ E born c0 c1 c2 c3, S E ∧ ents = [(c.k, .pointer (some ⟨E, 0, none⟩), born)] ∧ w.heap[E]? = some (.cells #[c0, c1, c2, c3, .bool d] 51 (0, 0)) ∧
      (d = false → c1 = .int .i64 0 ∧ c2 = .complex .f64 c.s.1 c.s.2)

def FlAt (w : World) (S : Nat → Prop) (F : Nat) (c : Cfg) (st : FSt) (P M cap clock : Nat) (pc : Array Value) (lv : Value) (ents : List (Int × Value × Nat)) : Prop :=
  S F ∧ S P ∧ S M ∧
  w.heap[F]? = some (.cells #[.slice (some ⟨P, 0, none⟩) 1 cap, .map (some M), lv, .int .i64 st.ch] 44 (0, 0)) ∧
  w.heap[P]? = some (.cells pc 26 (0, 0)) ∧ pc[0]? = some (.complex .f64 (zOf c st.ent).1 (zOf c st.ent).2) ∧
  w.heap[M]? = some (.map (ents.map mkEnt).toArray clock) ∧
  EntOk w S c ents st.ent ∧
  w.ownsRow 0 29 4 lv st.late.length (lateCells c st.late) ∧ (∀ k, lv.ownBlock = some k → S k)

def Fl (w : World) (S : Nat → Prop) (F : Nat) (c : Cfg) (st : FSt) : Prop := ∃ P M cap clock pc lv ents, FlAt w S F c st P M cap clock pc lv ents

theorem EntOk.keeps {w w' : World} {S : Nat → Prop} {c : Cfg} {ents : List (Int × Value × Nat)} {o : Option Bool} (h : EntOk w S c ents o) (hb : Below w.heap.size w w') : EntOk w' S c ents o := by
  cases o with
  | none => exact h
  | some d =>
    obtain ⟨E, born, c0, c1, c2, c3, hE, he, hh, hd⟩ := h
    exact ⟨E, born, c0, c1, c2, c3, hE, he, (hb.block E (Array.getElem?_eq_some_iff.1 hh).1).trans hh, hd⟩

theorem Fl.keeps {w w' : World} {S : Nat → Prop} {F : Nat} {c : Cfg} {st : FSt} (h : Fl w S F c st) (hb : Below w.heap.size w w') : Fl w' S F c st := by
  obtain ⟨P, M, cap, clock, pc, lv, ents, h1, h2, h3, hF, hP, hpc, hM, hE, hl, hlS⟩ := h
  exact ⟨P, M, cap, clock, pc, lv, ents, h1, h2, h3, (hb.block F (Array.getElem?_eq_some_iff.1 hF).1).trans hF, (hb.block P (Array.getElem?_eq_some_iff.1 hP).1).trans hP, hpc,
    (hb.block M (Array.getElem?_eq_some_iff.1 hM).1).trans hM, hE.keeps hb, hl.kept ⟨hb.os, hb.tape, hb.output, hb.size, fun k hk _ => hb.block k hk⟩ (row := none) (by cases lv.ownBlock <;> simp), hlS⟩

theorem cell_at {w : World} {g t : Nat} {cs : Array Value} {fz : Nat × Nat} (h : w.heap[g]? = some (.cells cs t fz)) (j : Nat) : w.cell? ⟨g, j, none⟩ = cs[j]? := by simp [World.cell?, h]
theorem frozen_at {w : World} {g t : Nat} {cs : Array Value} (h : w.heap[g]? = some (.cells cs t (0, 0))) (j : Nat) : w.frozen? ⟨g, j, none⟩ = false := by simp [World.frozen?, h]
theorem ne_types {w : World} {g g' t t' : Nat} {cs cs' : Array Value} {fz fz' : Nat × Nat} (h : w.heap[g]? = some (.cells cs t fz)) (h' : w.heap[g']? = some (.cells cs' t' fz')) (hn : t ≠ t') : g ≠ g' := by
  rintro rfl
  rw [h] at h'
  injection h' with h'
  injection h' with _ h'
  exact hn h'

end Go.Proofs.Ytgkebieekpkmmaa
