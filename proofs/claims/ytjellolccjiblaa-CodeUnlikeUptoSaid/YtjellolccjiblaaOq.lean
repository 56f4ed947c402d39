import Derived.Test.YtjellolccjiblaaOp
import Derived.Test.YtjellolccjiblaaCd
namespace Go.Proofs.Ytjellolccjiblaa
open Go.RowKit
open YtjellolccjiblaaW.PrintWords (nums bytesOf bytesOf_length Kd ReadsRow)
open PCodeUnlike

def L49 (x : S49) : Nat := (1 + (1 + (1 + (x.f3.size + 1)))) + 1
def L93 (x : S93) : Nat := (1 + L49 x.f1) + 1
def L90 (x : List S93) : Nat := sumL L93 x + 1
def L59 (x : S59) : Nat := (sumL L90 x.f0 + 1) + 1
def L61 (x : S61) : Nat := (1 + L59 x.f1) + 1
def L52 (x : S52) : Nat := (L49 x.f0 + (1 + (sumL L61 x.f2 + 1))) + 1
def L44 (x : S44) : Nat := ((x.f0.size + 1) + (sumL L52 x.f1 + 1)) + 1

variable {H : Type} {enc : TypeId × Value → H} {w : World} {spare : Nat → Bool} {held : Bool}
theorem opn49 : Opn enc w spare held k49 49 L49 :=
  opn_iso (fun p => ⟨p.1, p.2.1, p.2.2.1, p.2.2.2⟩) (fun _ => rfl) (opn_struct Try.underlying49 (opnF_cons (opn_int Try.underlying3) (opnF_cons (opn_int Try.underlying3) (opnF_cons (opn_int Try.underlying3) (opnF_one (opn_string Try.underlying9) rfl (by kernel_rfl)) rfl rfl (by kernel_rfl)) rfl rfl (by kernel_rfl)) rfl rfl (by kernel_rfl)) (by kernel_rfl))
theorem opn93 : Opn enc w spare held k93 93 L93 :=
  opn_iso (fun p => ⟨p.1, p.2⟩) (fun _ => rfl) (opn_struct Try.underlying93 (opnF_cons (opn_int Try.underlying3) (opnF_one opn49 rfl (by kernel_rfl)) rfl rfl (by kernel_rfl)) (by kernel_rfl))
theorem opn90 : Opn enc w spare held (Kd.slice 93 k93) 90 L90 := opn_slice Try.underlying90 opn93 (by kernel_rfl)
theorem opn59 : Opn enc w spare held k59 59 L59 :=
  opn_iso (fun p => ⟨p⟩) (fun _ => rfl) (opn_struct Try.underlying59 (opnF_one (opn_slice Try.underlying57 opn90 (by kernel_rfl)) rfl (by kernel_rfl)) (by kernel_rfl))
theorem opn61 : Opn enc w spare held k61 61 L61 :=
  opn_iso (fun p => ⟨p.1, p.2⟩) (fun _ => rfl) (opn_struct Try.underlying61 (opnF_cons (opn_int Try.underlying3) (opnF_one opn59 rfl (by kernel_rfl)) rfl rfl (by kernel_rfl)) (by kernel_rfl))
theorem opn52 : Opn enc w spare held k52 52 L52 :=
  opn_iso (fun p => ⟨p.1, p.2.1, p.2.2⟩) (fun _ => rfl) (opn_struct Try.underlying52 (opnF_cons opn49 (opnF_cons (opn_int Try.underlying3) (opnF_one (opn_slice Try.underlying50 opn61 (by kernel_rfl)) rfl (by kernel_rfl)) rfl rfl (by kernel_rfl)) rfl rfl (by kernel_rfl)) (by kernel_rfl))
theorem opn44 : Opn enc w spare held k44 44 L44 :=
  opn_iso (fun p => ⟨p.1, p.2⟩) (fun _ => rfl) (opn_struct Try.underlying44 (opnF_cons (opn_string Try.underlying9) (opnF_one (opn_slice Try.underlying42 opn52 (by kernel_rfl)) rfl (by kernel_rfl)) rfl rfl (by kernel_rfl)) (by kernel_rfl))
theorem opn24 : Opn enc w spare held (Kd.slice 44 k44) 24 (fun l => (sumL L44 l + 1) + 1) :=
  opn_struct Try.underlying24 (opnF_one (opn_slice Try.underlying22 opn44 (by kernel_rfl)) rfl (by kernel_rfl)) (by kernel_rfl)

theorem sum_le {α : Type} {L : α → Nat} : ∀ {xs : List α} {x : α}, x ∈ xs → L x ≤ sumL L xs
  | y :: ys, x, h => by
    rcases List.mem_cons.1 h with rfl | h
    · simp [sumL]
    · have := sum_le (L := L) h
      simp only [sumL]; omega
theorem sum_len {α : Type} {L : α → Nat} (hL : ∀ x, 1 ≤ L x) : ∀ (xs : List α), xs.length ≤ sumL L xs
  | [] => by simp
  | y :: ys => by
    have := sum_len hL ys
    have := hL y
    simp only [sumL, List.length_cons]; omega
theorem vi_len : ∀ (k n : Nat), n < 128 ^ (k + 1) → (vi n).length ≤ k + 1
  | 0, n, h => by rw [vi_small (by simpa using h)]; simp
  | k + 1, n, h => by
    by_cases h1 : n < 128
    · rw [vi_small h1]; simp
    · rw [vi_big (by omega)]
      have := vi_len k (n / 128) (by rw [Nat.pow_succ] at h; omega)
      simp; omega
theorem num_len : ∀ (ns : List Int), (numsE ns).1.length ≤ 6 * ns.length
  | [] => by simp [numsE]
  | n :: ns => by
    unfold numsE
    split
    · simp
    · rename_i h
      have h1 := num_len ns
      have h2 := vi_len 5 n.toNat (by unfold mostN at h; omega)
      simp; omega
theorem list_len {α : Type} {E : α → List Int × Bool} {L : α → Nat} (h : ∀ x, (E x).1.length ≤ 6 * L x) : ∀ (xs : List α), (listE E xs).1.length ≤ 6 * sumL L xs
  | [] => by simp [listE]
  | x :: xs => by
    have h1 := list_len h xs
    have h2 := h x
    simp [listE, seqE, sumL]; omega
theorem lenE_len {α : Type} {E : α → List Int × Bool} {L : α → Nat} (h : ∀ x, (E x).1.length ≤ 6 * L x) (xs : List α) : (lenE E xs).1.length ≤ 6 * (sumL L xs + 1) := by
  have h1 := list_len h xs
  have h2 := num_len [(xs.length : Int)]
  simp [lenE, seqE] at h2 ⊢; omega
theorem text_len (s : ByteArray) : (textE s).1.length ≤ 6 * (s.size + 1) := by
  have h2 := num_len [(s.size : Int)]
  simp [textE, seqE, bytesOf_length] at h2 ⊢; omega
theorem E49_len (x : S49) : (E49 x).1.length ≤ 6 * L49 x := by
  have h1 := num_len [x.f0, x.f1, x.f2]
  have h2 := text_len x.f3
  simp [E49, seqE, L49] at h1 ⊢; omega
theorem E93_len (x : S93) : (E93 x).1.length ≤ 6 * L93 x := by
  have h1 := num_len [x.f0]
  have h2 := E49_len x.f1
  by_cases h : x.f0 = 0
  · simp [E93, seqE, L93, h] at h1 ⊢; omega
  · simp [E93, seqE, L93, h] at h1 ⊢; omega
theorem E59_len (x : S59) : (E59 x).1.length ≤ 6 * L59 x := by
  have := lenE_len (E := E90) (L := L90) (fun y => lenE_len E93_len y) x.f0
  simp only [E59, L59]; omega
theorem E61_len (x : S61) : (E61 x).1.length ≤ 6 * L61 x := by
  have h1 := num_len [x.f0]
  have h2 := E59_len x.f1
  simp [E61, seqE, L61] at h1 ⊢; omega
theorem E52_len (x : S52) : (E52 x).1.length ≤ 6 * L52 x := by
  have h1 := num_len [x.f1]
  have h2 := E49_len x.f0
  have h3 := lenE_len E61_len x.f2
  simp [E52, seqE, L52] at h1 h3 ⊢; omega
theorem E44_len (x : S44) : (E44 x).1.length ≤ 6 * L44 x := by
  have h2 := text_len x.f0
  have h3 := lenE_len E52_len x.f1
  simp [E44, seqE, L44] at h2 h3 ⊢; omega

theorem good59_of (x : S59) (h : L59 x ≤ 1048576) : good59 x := by
  have h1 := sum_len (L := L90) (fun y => by simp [L90]) x.f0
  refine ⟨by simp only [L59] at h; omega, fun y hy => ?_⟩
  have h2 := sum_le (L := L90) hy
  have h3 := sum_len (L := L93) (fun z => by simp [L93]) y
  simp only [L59, L90] at h h2
  simp only [goodL]; omega
theorem good61_of (x : S61) (h : L61 x ≤ 1048576) : good61 x := good59_of x.f1 (by simp only [L61] at h; omega)
theorem good52_of (x : S52) (h : L52 x ≤ 1048576) : good52 x := by
  have h1 := sum_len (L := L61) (fun y => by simp [L61]) x.f2
  simp only [L52] at h
  exact ⟨by omega, fun y hy => good61_of y (by have := sum_le (L := L61) hy; omega)⟩
theorem good44_of (x : S44) (h : L44 x ≤ 1048576) : good44 x := by
  have h1 := sum_len (L := L52) (fun y => by simp [L52]) x.f1
  simp only [L44] at h
  exact ⟨by omega, fun y hy => good52_of y (by have := sum_le (L := L52) hy; omega)⟩
theorem goods_of (l : List S44) (h : sumL L44 l ≤ 1048576) : l.length ≤ 1048576 ∧ (∀ x ∈ l, good44 x) ∧ (lenE E44 l).1.length ≤ 70368744177664 := by
  have h1 := sum_len (L := L44) (fun y => by simp [L44]) l
  have h2 := lenE_len E44_len l
  exact ⟨by omega, fun x hx => good44_of x (by have := sum_le (L := L44) hx; omega), by omega⟩
end Go.Proofs.Ytjellolccjiblaa
