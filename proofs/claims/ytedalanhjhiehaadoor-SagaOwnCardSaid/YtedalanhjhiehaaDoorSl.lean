import Derived.Test.YtedalanhjhiehaaDoorSk
import Derived.ChangeArms
import Derived.ChangeShapes
import Derived.OpenShut
import Derived.Test.YtedalanhjhiehaaDoorRows
namespace Go.Proofs.YtedalanhjhiehaaDoor
open Go.RowKit
open YtedalanhjhiehaaDoorW.PrintWords (nums Kd ReadsRow)
open Go.Proofs.YtedalanhjhiehaaDoor.Rows (uptoBulk uptoBulkAll)

/-- what a read argument of type t is, and how much it holds -/
def Opn {H : Type} (enc : TypeId × Value → H) (w : World) (spare : Nat → Bool) (held : Bool) {α : Type} (k : Kd α) (t : TypeId) (L : α → Nat) : Prop :=
  ∀ fuel cs x, DataW.trod enc Tryd.prog w 0 spare held fuel t cs = some x → ∃ a, k.K w a cs ∧ L a ≤ uptoBulk x.1

/-- .. of fields, from a place on -/
def OpnF {H : Type} (enc : TypeId × Value → H) (w : World) (spare : Nat → Bool) (held : Bool) {α : Type} (k : Kd α) (fs : List Field) (off : Nat) (L : α → Nat) : Prop :=
  ∀ n (cs : List Value) (xs : List (DataW H × List MemPlace)), xs.length = fs.length → cs.length = off + k.sz →
    (∀ (i : Nat) (f : Field), fs[i]? = some f → DataW.trod enc Tryd.prog w 0 spare held n f.type ((cs.drop f.offset).take (Tryd.prog.cellsOf f.type)) = xs[i]?) →
    ∃ a, k.K w a (cs.drop off) ∧ L a ≤ uptoBulkAll (xs.map (·.1))

variable {H : Type} {enc : TypeId × Value → H} {w : World} {spare : Nat → Bool} {held : Bool}
theorem opn_int {t : TypeId} {kd : IntKind} (ht : Tryd.prog.underlying t = some (.int kd)) : Opn enc w spare held (Kd.int kd) t (fun _ => 1) := by
  intro fuel cs x h
  obtain ⟨n, rfl, rfl, _⟩ := DataW.trod_int ht h
  exact ⟨n, rfl, by simp [uptoBulk]⟩
theorem opnF_one {α : Type} {k : Kd α} {f : Field} {off : Nat} {L : α → Nat} (h : Opn enc w spare held k f.type L) (ho : f.offset = off) (hc : Tryd.prog.cellsOf f.type = k.sz) : OpnF enc w spare held k [f] off L := by
  intro n cs xs hx hl hf
  match xs, hx with
  | [x], _ =>
    have h0 := hf 0 f rfl
    rw [ho, hc, List.take_of_length_le (by simp; omega)] at h0
    obtain ⟨a, h1, h2⟩ := h n _ x h0
    exact ⟨a, h1, by simpa [uptoBulkAll] using h2⟩
theorem opnF_cons {α β : Type} {k : Kd α} {k' : Kd β} {f : Field} {fs : List Field} {off off' : Nat} {L : α → Nat} {L' : β → Nat} (h : Opn enc w spare held k f.type L) (h' : OpnF enc w spare held k' fs off' L') (ho : f.offset = off) (ho' : off' = off + k.sz) (hc : Tryd.prog.cellsOf f.type = k.sz) : OpnF enc w spare held (Kd.pair k k') (f :: fs) off (fun p => L p.1 + L' p.2) := by
  intro n cs xs hx hl hf
  match xs, hx with
  | x :: xs, hx =>
    have hsz : (Kd.pair k k').sz = k.sz + k'.sz := rfl
    have h0 := hf 0 f rfl
    rw [ho, hc] at h0
    obtain ⟨a, h1, h2⟩ := h n _ x h0
    obtain ⟨b, h3, h4⟩ := h' n cs xs (by simpa using hx) (by omega) (fun i f' hi => hf (i + 1) f' hi)
    refine ⟨(a, b), ⟨_, _, ?_, h1, h3⟩, ?_⟩
    · rw [ho', ← List.drop_drop, List.take_append_drop]
    · simp only [List.map_cons, uptoBulkAll]
      omega
theorem opn_struct {α : Type} {k : Kd α} {t : TypeId} {fs : Array Field} {L : α → Nat} (ht : Tryd.prog.underlying t = some (.struct fs)) (h : OpnF enc w spare held k fs.toList 0 L) (hc : Tryd.prog.cellsOf t = k.sz) : Opn enc w spare held k t (fun a => L a + 1) := by
  intro fuel cs x hx
  obtain ⟨xs, n, rfl, rfl, hl, hxs, hf⟩ := DataW.trod_struct ht hx
  obtain ⟨a, h1, h2⟩ := h n cs xs (by simpa using hxs) (by omega) (fun i f hi => hf i f (by simpa using hi))
  exact ⟨a, by simpa using h1, by simpa [uptoBulk] using h2⟩
theorem opn_iso {α β : Type} {k : Kd α} {t : TypeId} {L : α → Nat} {g : β → α} (i : α → β) (hi : ∀ a, g (i a) = a) (h : Opn enc w spare held k t L) : Opn enc w spare held (Kd.iso k g) t (fun b => L (g b)) := by
  intro fuel cs x hx
  obtain ⟨a, h1, h2⟩ := h fuel cs x hx
  refine ⟨i a, ?_, by show L (g (i a)) ≤ _; rw [hi]; exact h2⟩
  show k.K w (g (i a)) cs
  rw [hi]
  exact h1

def sumL {α : Type} (L : α → Nat) : List α → Nat
  | [] => 0
  | x :: xs => L x + sumL L xs
theorem mapM_get {α β : Type} {f : α → Option β} : ∀ {xs : List α} {ys : List β}, xs.mapM f = some ys → ys.length = xs.length ∧ ∀ (i : Nat) (x : α), xs[i]? = some x → ∃ y, ys[i]? = some y ∧ f x = some y
  | [], ys, h => by
    simp at h
    subst h
    simp
  | x :: xs, ys, h => by
    simp only [List.mapM_cons, Option.bind_eq_bind, Option.pure_def] at h
    obtain ⟨y, hy, h⟩ := Option.bind_eq_some_iff.1 h
    obtain ⟨zs, hz, h⟩ := Option.bind_eq_some_iff.1 h
    cases h
    obtain ⟨h1, h2⟩ := mapM_get hz
    refine ⟨by simp [h1], fun i x' hi => ?_⟩
    match i with
    | 0 => simp at hi; subst hi; exact ⟨y, rfl, hy⟩
    | i + 1 => exact h2 i x' (by simpa using hi)
theorem cells_get {a : Addr} {n : Nat} {cs : List Value} (h : w.cells? 0 a n = some cs) : cs.length = n ∧ ∀ j u, cs[j]? = some u → w.cell? (a.add j) = some u := by
  unfold World.cells? at h
  rw [if_pos (Nat.zero_le _)] at h
  obtain ⟨h1, h2⟩ := mapM_get h
  refine ⟨by simpa using h1, fun j u hj => ?_⟩
  have hlt := (List.getElem?_eq_some_iff.1 hj).1
  have hlt2 : j < n := by simpa [h1] using hlt
  obtain ⟨y, hy, hz⟩ := h2 j j (List.getElem?_range hlt2)
  rw [hj] at hy
  cases hy
  exact hz

theorem elems_open {α : Type} {k : Kd α} {e : TypeId} {L : α → Nat} (h : Opn enc w spare held k e L) (ad : Addr) (n : Nat) : ∀ (elems : List (DataW H × List MemPlace)) (m : Nat),
    (∀ i, i < elems.length → (w.cells? 0 (ad.add ((m + i) * k.sz)) k.sz).bind (DataW.trod enc Tryd.prog w 0 spare held n e) = elems[i]?) →
    ∃ xs : List α, xs.length = elems.length ∧ sumL L xs ≤ uptoBulkAll (elems.map (·.1)) ∧ ∀ j p, xs[j]? = some p → ∃ c, c.length = k.sz ∧ k.K w p c ∧ ∀ i u, c[i]? = some u → w.cell? (ad.add ((m + j) * k.sz + i)) = some u
  | [], _, _ => ⟨[], rfl, by simp [sumL], by simp⟩
  | x :: elems, m, hh => by
    have h0 := hh 0 (by simp)
    simp only [Nat.add_zero] at h0
    obtain ⟨cs, hc, ht⟩ := Option.bind_eq_some_iff.1 (h0.trans (by rfl : _ = some x))
    obtain ⟨a, h1, h2⟩ := h n cs x ht
    obtain ⟨xs, h3, h4, h5⟩ := elems_open h ad n elems (m + 1) (fun i hi => by
      have := hh (i + 1) (by simpa using hi)
      rw [show m + 1 + i = m + (i + 1) by omega]
      simpa using this)
    obtain ⟨g1, g2⟩ := cells_get hc
    refine ⟨a :: xs, by simp [h3], by simp only [sumL, List.map_cons, uptoBulkAll]; omega, fun j p hp => ?_⟩
    match j with
    | 0 =>
      simp at hp
      subst hp
      refine ⟨cs, g1, h1, fun i u hi => ?_⟩
      have := g2 i u hi
      rw [YtedalanhjhiehaaDoorW.PrintWords.add_add] at this
      simpa using this
    | j + 1 =>
      obtain ⟨c, q1, q2, q3⟩ := h5 j p (by simpa using hp)
      exact ⟨c, q1, q2, by rw [show m + (j + 1) = m + 1 + j by omega]; exact q3⟩
theorem opn_slice {α : Type} {k : Kd α} {t e : TypeId} {L : α → Nat} (ht : Tryd.prog.underlying t = some (.slice e)) (h : Opn enc w spare held k e L) (hc : Tryd.prog.cellsOf e = k.sz) : Opn enc w spare held (Kd.slice e k) t (fun xs => sumL L xs + 1) := by
  intro fuel cs x hx
  rcases DataW.trod_slice ht hx with ⟨rfl, rfl⟩ | ⟨a, len, cap, elems, rest, n, rfl, rfl, rfl, _, hle, hcap, hlen, hel, _, _⟩
  · exact ⟨[], ⟨none, 0, rfl, Nat.le_refl _, Kd.C_nil _ _⟩, by simp [sumL, uptoBulk]⟩
  · rw [hc] at hel
    obtain ⟨xs, h1, h2, h3⟩ := elems_open h a n elems 0 (fun i hi => by simpa using hel i (by omega))
    refine ⟨xs, ⟨some a, cap, by rw [h1, hlen], by omega, ?_⟩, by simp only [uptoBulk]; omega⟩
    refine ⟨rfl, by have : maxLen ≤ 9223372036854775807 := by decide
                    omega, fun _ => ⟨a, rfl, fun j p hp => ?_⟩⟩
    simpa using h3 j p hp

/-- an array of two whole numbers -/
theorem opn_two {t : TypeId} (ht : Tryd.prog.underlying t = some (.array 2 3)) (hc : Tryd.prog.cellsOf t = 2) : Opn enc w spare held kP t (fun _ => 1) := by
  intro fuel cs x h
  obtain ⟨xs, m, rfl, rfl, hl, hx, hf⟩ := DataW.trod_array ht h
  have c3 : Tryd.prog.cellsOf 3 = 1 := by kernel_rfl
  rw [c3] at hf
  match xs, hx with
  | [a, b], _ =>
    obtain ⟨n0, h0, rfl, _⟩ := DataW.trod_int Tryd.underlying3 (hf 0 (by decide))
    obtain ⟨n1, h1, rfl, _⟩ := DataW.trod_int Tryd.underlying3 (hf 1 (by decide))
    match cs, hl.trans hc with
    | [u, v], _ =>
      simp at h0 h1
      subst h0; subst h1
      exact ⟨(n0, n1), ⟨_, _, rfl, rfl, rfl⟩, by simp [uptoBulk]⟩
theorem opn54 : Opn enc w spare held kP 54 (fun _ => 1) := opn_two Tryd.underlying54 (by kernel_rfl)
theorem opn50 : Opn enc w spare held kP 50 (fun _ => (1 + 1) + 1) := opn_struct Tryd.underlying50 (opnF_cons (opn_int Tryd.underlying3) (opnF_one (opn_int Tryd.underlying3) rfl (by kernel_rfl)) rfl rfl (by kernel_rfl)) (by kernel_rfl)
theorem opn26 : Opn enc w spare held kPlan 26 (fun p => ((sumL (fun _ => 1) p.fr + 1) + ((sumL (fun _ => 1) p.tt + 1) + ((sumL (fun _ => (1 + 1) + 1) p.steps + 1) + (sumL (fun _ => 1) p.before + 1)))) + 1) :=
  opn_iso (fun p => ⟨p.1, p.2.1, p.2.2.1, p.2.2.2⟩) (fun _ => rfl) (opn_struct Tryd.underlying26 (opnF_cons (opn_slice Tryd.underlying22 (opn_int Tryd.underlying3) (by kernel_rfl)) (opnF_cons (opn_slice Tryd.underlying22 (opn_int Tryd.underlying3) (by kernel_rfl)) (opnF_cons (opn_slice Tryd.underlying23 opn50 (by kernel_rfl)) (opnF_one (opn_slice Tryd.underlying24 opn54 (by kernel_rfl)) rfl (by kernel_rfl)) rfl rfl (by kernel_rfl)) rfl rfl (by kernel_rfl)) rfl rfl (by kernel_rfl)) (by kernel_rfl))
theorem opn39 : ∃ L, Opn enc w spare held kRec 39 L :=
  ⟨_, opn_iso (fun p => ⟨p.1, p.2.1, p.2.2⟩) (fun _ => rfl) (opn_struct Tryd.underlying39 (opnF_cons (opn_int Tryd.underlying3) (opnF_cons (opn_int Tryd.underlying3) (opnF_one opn26 rfl (by kernel_rfl)) rfl rfl (by kernel_rfl)) rfl rfl (by kernel_rfl)) (by kernel_rfl))⟩
/-- the row of records that comes in -/
theorem opened41 {fuel : Nat} {v : Value} {x : DataW H × List MemPlace} (h : DataW.trod enc Tryd.prog w 0 spare held fuel 41 [v] = some x) : ∃ (sl : SL) (rs : List RecP), v = sl.v rs.length ∧ RdR w sl rs := by
  obtain ⟨L, hL⟩ := opn39 (enc := enc) (w := w) (spare := spare) (held := held)
  obtain ⟨rs, ⟨A, c, he, hl, hC⟩, _⟩ := opn_slice Tryd.underlying41 hL (by kernel_rfl) fuel _ x h
  simp at he
  exact ⟨⟨A, c⟩, rs, he, hC, hl⟩
end Go.Proofs.YtedalanhjhiehaaDoor
