import Derived.Test.YtgkebieekpkmmaaChecked
import Derived.WalkKit
import Derived.WalkLawsBesides
import Derived.Laws.ComplexArith
import Derived.Deep.QuietTactic
import Derived.BigQuiet
import Derived.Lib.Hide
namespace Go.Proofs.Ytgkebieekpkmmaa
open Go.RowKit

def truncOf (x : Nat) : Nat := FloatKind.f64.encode ((FloatKind.f64.decode x).integral .zero)

theorem run_arch (x : Nat) (w : World) (h : (FloatKind.f64.decode x).isNaN = false) :
    (callFunc 24 #[.float .f64 x]).run Try.prog w = .ok (.value (.float .f64 (truncOf x))) w := by
  rw [run_callFunc_extern (P := Try.prog) (f := 24) (fn := Try.f24) (e := Extern.MathFloor.toIntegral "math.archTrunc" .zero) rfl (by kernel_rfl) (by kernel_rfl) (by kernel_rfl) (by kernel_rfl)]
  have he : Extern.MathFloor.toIntegral "math.archTrunc" .zero #[.float .f64 x] = pure (.float .f64 (truncOf x)) := by
    show (match FloatKind.f64.decode x with
      | .nan s t =>
        if FloatKind.f64.format.quiet t = t then pure (Value.float .f64 x) else do
        let kept ← choose (.extern "math.Floor,Ceil,Trunc,RoundToEven.signallingNaN kept" 2)
        pure (Value.float .f64 (if kept == 1 then x else FloatKind.f64.encode (.nan s (FloatKind.f64.format.quiet t))))
      | d => pure (Value.float .f64 (FloatKind.f64.encode (d.integral .zero))) : Sem Value) = _
    unfold truncOf
    cases hd : FloatKind.f64.decode x with
    | nan s t => rw [hd] at h; cases h
    | infinity s => rfl
    | number s m e => rfl
  rw [he]
  rfl

theorem trunc_any (x : Nat) (w : World) (h : (FloatKind.f64.decode x).isNaN = false) :
    Calls Try.prog 23 #[.float .f64 x] w fun e w' => e = .returned (.float .f64 (truncOf x)) ∧ w = w' := by
  have hr := run_arch x w h
  go_enter Try.func23, Try.ntmps23
  go_wp2
  go_ret
  exact ⟨rfl, rfl⟩

def geB (x y : Nat) : Bool := FloatKind.f64.format.order x y == some .gt || FloatKind.f64.format.order x y == some .eq
def leB (x y : Nat) : Bool := FloatKind.f64.format.order x y == some .lt || FloatKind.f64.format.order x y == some .eq
def eqB (x y : Nat) : Bool := FloatKind.f64.format.order x y == some .eq
def mostBits : Nat := 4697254411347427328

def wholeB (x lo : Nat) : Bool := geB x lo && (leB x mostBits && eqB x (truncOf x))

theorem nan_order (x y : Nat) (h : (FloatKind.f64.decode x).isNaN = true) : FloatKind.f64.format.order x y = none := by
  have h' : (FloatKind.f64.format.read x).isNaN = true := h
  unfold Ieee.Format.order
  cases hd : FloatKind.f64.format.read x with
  | nan s t => simp [Ieee.Datum.order]
  | infinity s => rw [hd] at h'; cases h'
  | number s m e => rw [hd] at h'; cases h'

theorem not_nan_of_ge {x y : Nat} (h : geB x y = true) : (FloatKind.f64.decode x).isNaN = false := by
  cases hn : (FloatKind.f64.decode x).isNaN with
  | false => rfl
  | true => simp [geB, nan_order x y hn] at h

theorem whole_any (x lo : Nat) (w : World) :
    Calls Try.prog 22 #[.float .f64 x, .float .f64 lo] w fun e w' => e = .returned (.bool (wholeB x lo)) ∧ w = w' := by
  cases h1 : geB x lo with
  | false =>
    have h1' := h1
    unfold geB at h1
    have hf : wholeB x lo = false := by simp [wholeB, h1']
    rw [hf]
    have hh := Lib.hid hf
    clear hf h1'
    go_enter Try.func22, Try.ntmps22
    go_wp2
    go_ret
    exact ⟨rfl, rfl⟩
  | true =>
    have hn := not_nan_of_ge h1
    cases h2 : leB x mostBits with
    | false =>
      have hf : wholeB x lo = false := by simp [wholeB, h2]
      unfold geB at h1
      unfold leB mostBits at h2
      rw [hf]
      clear hf
      go_enter Try.func22, Try.ntmps22
      go_wp2
      go_ret
      exact ⟨rfl, rfl⟩
    | true =>
      have hf : wholeB x lo = eqB x (truncOf x) := by simp [wholeB, h1, h2]
      unfold geB at h1
      unfold leB mostBits at h2
      rw [hf]
      clear hf
      have Hn := Lib.hid hn
      clear hn
      go_enter Try.func22, Try.ntmps22
      go_wp2_with (go_at_call 23; refine (trunc_any _ _ Hn.out).mono ?_; rintro e w' ⟨rfl, rfl⟩)
      go_ret
      exact ⟨rfl, rfl⟩

def minusMostBits : Nat := 13920626448202203136
def placeB (re im : Nat) : Bool := wholeB re 0 && wholeB im 0
def stepB (re im : Nat) : Bool := wholeB re minusMostBits && wholeB im minusMostBits

theorem place_any (re im : Nat) (w : World) :
    Calls Try.prog 16 #[.complex .f64 re im] w fun e w' => e = .returned (.bool (placeB re im)) ∧ w = w' := by
  unfold placeB
  cases h1 : wholeB re 0 with
  | false =>
    go_enter Try.func16, Try.ntmps16
    go_wp2_with (go_at_call 22; refine (whole_any _ _ _).mono ?_; rintro e w' ⟨rfl, rfl⟩)
    go_ret
    exact ⟨rfl, rfl⟩
  | true =>
    go_enter Try.func16, Try.ntmps16
    go_wp2_with (go_at_call 22; refine (whole_any _ _ _).mono ?_; rintro e w' ⟨rfl, rfl⟩)
    go_ret
    exact ⟨rfl, rfl⟩

theorem step_any (re im : Nat) (w : World) :
    Calls Try.prog 18 #[.complex .f64 re im] w fun e w' => e = .returned (.bool (stepB re im)) ∧ w = w' := by
  unfold stepB
  cases h1 : wholeB re minusMostBits with
  | false =>
    unfold minusMostBits at h1 ⊢
    go_enter Try.func18, Try.ntmps18
    go_wp2_with (go_at_call 22; refine (whole_any _ _ _).mono ?_; rintro e w' ⟨rfl, rfl⟩)
    go_ret
    exact ⟨rfl, rfl⟩
  | true =>
    unfold minusMostBits at h1 ⊢
    go_enter Try.func18, Try.ntmps18
    go_wp2_with (go_at_call 22; refine (whole_any _ _ _).mono ?_; rintro e w' ⟨rfl, rfl⟩)
    go_ret
    exact ⟨rfl, rfl⟩

theorem parts_ok (re im : Nat) (a b : Int) (hp : placeB re im = true) (ha : floatToIntVal .f64 re .i64 = some a) (hb : floatToIntVal .f64 im .i64 = some b) (w : World) :
    Calls Try.prog 11 #[.complex .f64 re im] w fun e w' => e = .returned (.tuple #[.int .i64 a, .int .i64 b, .int .i64 0]) ∧ w = w' := by
  have k1 := fun w => run_convert_float_int (P := Try.prog) w 53 3 .f64 .i64 re a (by kernel_rfl) (by kernel_rfl) ha
  have k2 := fun w => run_convert_float_int (P := Try.prog) w 53 3 .f64 .i64 im b (by kernel_rfl) (by kernel_rfl) hb
  clear ha hb
  go_enter Try.func11, Try.ntmps11
  go_wp2_with (go_at_call 16; refine (place_any _ _ _).mono ?_; rintro e w' ⟨rfl, rfl⟩)
  go_ret3
  exact ⟨rfl, rfl⟩

theorem parts_no (re im : Nat) (hp : placeB re im = false) (w : World) :
    Calls Try.prog 11 #[.complex .f64 re im] w fun e w' => e = .returned (.tuple #[.int .i64 0, .int .i64 0, .int .i64 12]) ∧ w = w' := by
  go_enter Try.func11, Try.ntmps11
  go_wp2_with (go_at_call 16; refine (place_any _ _ _).mono ?_; rintro e w' ⟨rfl, rfl⟩)
  go_ret3
  exact ⟨rfl, rfl⟩

theorem tidy_any (re im a b : Nat) (h : cSumBits .add .f64 re im 0 0 = some (a, b)) (w : World) :
    Calls Try.prog 19 #[.complex .f64 re im] w fun e w' => e = .returned (.complex .f64 a b) ∧ w = w' := by
  obtain ⟨h1, h2⟩ : floatBits .add .f64 re 0 = some a ∧ floatBits .add .f64 im 0 = some b := by
    unfold cSumBits at h
    cases h1 : floatBits .add .f64 re 0 with
    | none => simp [h1] at h
    | some x =>
      cases h2 : floatBits .add .f64 im 0 with
      | none => simp [h1, h2] at h
      | some y => simp [h1, h2] at h; simp [h]
  have k1 := fun (w : World) => run_float_arith (P := Try.prog) w .add 53 .f64 re 0 a h1
  have k2 := fun (w : World) => run_float_arith (P := Try.prog) w .add 53 .f64 im 0 b h2
  clear h h1 h2
  go_enter Try.func19, Try.ntmps19
  go_wp2
  go_ret
  exact ⟨rfl, rfl⟩

theorem steps_one (b re im : Nat) (hs : stepB re im = true) (w : World) (hc : w.cell? ⟨b, 0, none⟩ = some (.complex .f64 re im)) :
    Calls Try.prog 17 #[.slice (some ⟨b, 0, none⟩) 1 1] w fun e w' => e = .returned (.int .i64 0) ∧ w = w' := by
  go_enter Try.func17, Try.ntmps17
  go_wp2
  refine wp_loop_rounds 2 ?_
  rw [rounds_succ]
  go_wp2_with (go_at_call 18; refine (step_any _ _ _).mono ?_; rintro e w' ⟨rfl, rfl⟩)
  rw [rounds_succ]
  go_wp2
  go_ret
  exact ⟨rfl, rfl⟩

theorem sum_one (b re im a1 a2 c1 c2 : Nat) (hs : stepB re im = true) (h1 : cSumBits .add .f64 0 0 re im = some (a1, a2)) (h2 : stepB a1 a2 = true) (h3 : cSumBits .add .f64 a1 a2 0 0 = some (c1, c2)) (w : World) (hc : w.cell? ⟨b, 0, none⟩ = some (.complex .f64 re im)) :
    Calls Try.prog 13 #[.slice (some ⟨b, 0, none⟩) 1 1] w fun e w' => e = .returned (.tuple #[.complex .f64 c1 c2, .int .i64 0]) ∧ w = w' := by
  have k1 := fun (w : World) => run_complex_sum (P := Try.prog) w .add (.inl rfl) 26 .f64 0 0 re im a1 a2 h1
  clear h1
  go_enter Try.func13, Try.ntmps13
  go_wp2_with (go_at_call 17; refine (steps_one _ _ _ hs _ hc).mono ?_; rintro e w' ⟨rfl, rfl⟩)
  refine wp_loop_rounds 2 ?_
  rw [rounds_succ]
  go_wp2
  rw [rounds_succ]
  go_wp2_with (first | (go_at_call 18; refine (step_any _ _ _).mono ?_; rintro e w' ⟨rfl, rfl⟩) | (go_at_call 19; refine (tidy_any _ _ _ _ h3 _).mono ?_; rintro e w' ⟨rfl, rfl⟩))
  go_ret2
  exact ⟨rfl, rfl⟩

end Go.Proofs.Ytgkebieekpkmmaa
