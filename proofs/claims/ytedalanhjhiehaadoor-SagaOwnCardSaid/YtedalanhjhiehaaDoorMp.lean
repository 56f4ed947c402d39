import Derived.Test.YtedalanhjhiehaaDoorRa
set_option linter.unusedSimpArgs false
namespace Go.Proofs.YtedalanhjhiehaaDoor
open Go.RowKit

def mkEnt (x : Int × Value × Nat) : MapEntry := ⟨.int .i64 x.1, x.2.1, x.2.2⟩
def lk (k : Int) : List (Int × Value × Nat) → Nat → Option (Nat × Value)
  | [], _ => none
  | x :: xs, i => if k == x.1 then some (i, x.2.1) else lk k xs (i + 1)

theorem findNow_ents (k : Int) (l : List (Int × Value × Nat)) : ∀ i, Instr.findNow (.int .i64) (.int .i64 k) (l.map mkEnt) i = some (lk k l i) := by
  induction l with
  | nil => intro i; rfl
  | cons x xs ih =>
    intro i
    simp only [List.map_cons, Instr.findNow, mkEnt, Instr.sameNow, lk, if_true]
    by_cases h : k = x.1
    · simp [h]
    · have h1 : (k == x.1) = false := by simp [h]
      rw [h1]
      simp only [Bool.false_eq_true, if_false]
      exact ih _

theorem checkKey_int (P : Program) (w : World) (b : Bool) (n : Nat) (t : TypeId) (q : IntKind) (k : Int) (ht : P.underlying t = some (.int q)) :
    (Instr.checkKey b (n + 1) t (.int q k)).run P w = .ok () w := by
  simp [Instr.checkKey, run_underlying ht]

theorem findKey_ents (P : Program) (w : World) (kt : TypeId) (k : Int) (l : List (Int × Value × Nat)) (hk : P.underlying kt = some (.int .i64)) :
    (Instr.findKey kt (.int .i64 k) (l.map mkEnt)).run P w = .ok (lk k l 0) w := by
  simp [Instr.findKey, run_underlying hk, findNow_ents]

theorem lookup_ents (P : Program) (w : World) (t kt et : TypeId) (r clock : Nat) (k : Int) (l : List (Int × Value × Nat)) (z : Value)
    (ht : P.underlying t = some (.map kt et)) (hk : P.underlying kt = some (.int .i64)) (hM : w.heap[r]? = some (.map (l.map mkEnt).toArray clock))
    (hz : (zeroValue et).run P w = .ok z w) :
    (Instr.lookup t (.map (some r)) (.int .i64 k) false).run P w = .ok (((lk k l 0).map (·.2)).getD z) w := by
  cases h : lk k l 0 with
  | none => simp [Instr.lookup, run_underlying ht, getObj, Sem.run, hM, checkKey_int P w _ 9999 kt .i64 k hk, findKey_ents P w kt k l hk, h, hz]
  | some x => simp [Instr.lookup, run_underlying ht, getObj, Sem.run, hM, checkKey_int P w _ 9999 kt .i64 k hk, findKey_ents P w kt k l hk, h]

def putObj (w : World) (r : Nat) (o : Obj) : World := { w with heap := w.heap.setIfInBounds r o }

theorem mapUpdate_push (P : Program) (w : World) (t kt et : TypeId) (r clock : Nat) (k : Int) (l : List (Int × Value × Nat)) (v : Value)
    (ht : P.underlying t = some (.map kt et)) (hk : P.underlying kt = some (.int .i64)) (hM : w.heap[r]? = some (.map (l.map mkEnt).toArray clock))
    (hn : lk k l 0 = none) :
    (Instr.mapUpdate t (.map (some r)) (.int .i64 k) v).run P w = .ok () (putObj w r (.map ((l ++ [(k, v, clock)]).map mkEnt).toArray (clock + 1))) := by
  simp [Instr.mapUpdate, run_underlying ht, getObj, setObj, Sem.run, hM, checkKey_int P w _ 9999 kt .i64 k hk, findKey_ents P w kt k l hk, hn, putObj, mkEnt]

theorem putObj_heap_ne (w : World) (r : Nat) (o : Obj) (i : Nat) (h : i ≠ r) : (putObj w r o).heap[i]? = w.heap[i]? := by
  simp only [putObj, Array.getElem?_setIfInBounds]
  rw [if_neg (by omega)]
theorem putObj_heap (w : World) (r : Nat) (o o' : Obj) (h : w.heap[r]? = some o') : (putObj w r o).heap[r]? = some o := by
  have := (Array.getElem?_eq_some_iff.1 h).1
  simp [putObj, this]
theorem putObj_size (w : World) (r : Nat) (o : Obj) : (putObj w r o).heap.size = w.heap.size := by simp [putObj]
theorem putObj_below (w : World) (r : Nat) (o : Obj) (B : Nat) (h : B ≤ r) : Below B w (putObj w r o) := ⟨rfl, rfl, rfl, by rw [putObj_size]; exact Nat.le_refl _, fun k hk => putObj_heap_ne w r o k (by omega)⟩
end Go.Proofs.YtedalanhjhiehaaDoor
