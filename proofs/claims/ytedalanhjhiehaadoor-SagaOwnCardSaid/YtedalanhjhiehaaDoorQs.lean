import Derived.Test.YtedalanhjhiehaaDoorQr
set_option linter.unusedSimpArgs false
namespace Go.Proofs.YtedalanhjhiehaaDoor
open Go.RowKit
open YtedalanhjhiehaaDoorW.PrintWords (nums ReadsInt rd own_slice own_typed Kd)

def lastI (xs : List Int) : Int := xs.getD (xs.length - 1) 0
/-- what is taken back next -/
def topP (s : StateP) : Int × Bool := if s.ph = 2 then (if 0 < s.op.length then (lastI s.op, true) else if 0 < s.dn.length then (lastI s.dn, true) else (0, false)) else (0, false)
theorem last_at {w : World} {sl : SL} {xs : List Int} (h : RdI w sl xs) (h0 : 0 < xs.length) : ∃ ad, sl.a = some ad ∧ w.cell? (ad.add (xs.length - 1)) = some (.int .i64 (lastI xs)) := by
  obtain ⟨ad, e, hc⟩ := h.at_ (xs.length - 1) (by omega)
  refine ⟨ad, e, ?_⟩
  rw [hc, lastI, List.getD_eq_getElem?_getD, List.getElem?_eq_getElem (by omega)]
  rfl
def TopP (w : World) (s : StateP) (e : Ending) (w' : World) : Prop := e = .returned (.tuple #[.int .i64 (topP s).1, .bool (topP s).2]) ∧ Below w.heap.size w w'

set_option maxHeartbeats 4000000 in
theorem top_any (v : SV) (s : StateP) (w : World) (h : RdSt w v s) (hl : LensS s) : Calls Tryd.prog 11 #[stV v s] w (TopP w s) := by
  obtain ⟨vp, ⟨Ao, co⟩, ⟨Ad, cd⟩⟩ := v
  obtain ⟨w3, hw3⟩ : ∃ w3, w3 = (w.alloc (.cells (stCells ⟨vp, ⟨Ao, co⟩, ⟨Ad, cd⟩⟩ s) 34)).alloc (.cells #[(SL.v ⟨Ao, co⟩ s.op.length), (SL.v ⟨Ad, cd⟩ s.dn.length)] 22) := ⟨_, rfl⟩
  have hb3 : Below w.heap.size w w3 := by rw [hw3]; exact below_of_alloc2 _ _ _
  have hx := alloc2_fst w (.cells (stCells ⟨vp, ⟨Ao, co⟩, ⟨Ad, cd⟩⟩ s) 34) (.cells #[(SL.v ⟨Ao, co⟩ s.op.length), (SL.v ⟨Ad, cd⟩ s.dn.length)] 22)
  have hy := alloc2_snd w (.cells (stCells ⟨vp, ⟨Ao, co⟩, ⟨Ad, cd⟩⟩ s) 34) (.cells #[(SL.v ⟨Ao, co⟩ s.op.length), (SL.v ⟨Ad, cd⟩ s.dn.length)] 22)
  rw [← hw3] at hx hy
  have c1 : w3.cell? ⟨w.heap.size, 1, none⟩ = some (.int .i64 s.ph) := by rw [cell_at hx]; rfl
  have d0 : w3.cell? ⟨w.heap.size + 1, 0, none⟩ = some ((SL.v ⟨Ao, co⟩ s.op.length)) := by rw [cell_at hy]; rfl
  have d1 : w3.cell? ⟨w.heap.size + 1, 1, none⟩ = some ((SL.v ⟨Ad, cd⟩ s.dn.length)) := by rw [cell_at hy]; rfl
  have H := Lib.hid (h.below hb3)
  have HB3 := Lib.hid hb3
  have hlo := hl.o
  have hld := hl.d
  clear h hb3 hx hy hl
  unfold stV stCells SL.v at *
  dsimp only at *
  have HF : Hid (∀ (t : Int) (b : Bool), topP s = (t, b) → TopP w s (.returned (.tuple #[.int .i64 t, .bool b])) w3) := Lib.hid (fun t b he => by unfold TopP; rw [he]; exact ⟨rfl, HB3.out⟩)
  by_cases h2 : s.ph = 2
  · have e2 : (s.ph == 2) = true := by simp [h2]
    by_cases h0 : 0 < s.op.length
    · obtain ⟨ad, he, hc⟩ := last_at H.out.o h0
      obtain rfl : Ao = some ad := he
      have b0 : (0 : Int) < s.op.length := by omega
      have b1 : (1 : Int) ≤ s.op.length := by omega
      have b2 : (0 : Int) ≤ (s.op.length : Int) - 1 := by omega
      have b3 : (s.op.length : Int) - 1 < s.op.length := by omega
      have HV := HF.out (lastI s.op) true (by simp only [topP, h2, h0, if_true])
      have HVh := Lib.hid HV
      clear HV h2
      go_enter Tryd.func11, Tryd.ntmps11
      go_wp2
      rw [← hw3]
      clear hw3
      go_loop [12] (fun i => i = .int .i64 0) (fun i => 2 - (intOf i).toNat)
      case atStart => rfl
      case round =>
        obtain rfl := hrel
        go_wp2
        go_ret2
        exact HVh.out
    · by_cases h1 : 0 < s.dn.length
      · obtain ⟨ad, he, hc⟩ := last_at H.out.d h1
        obtain rfl : Ad = some ad := he
        have b0 : (0 : Int) < s.dn.length := by omega
        have b1 : (1 : Int) ≤ s.dn.length := by omega
        have b2 : (0 : Int) ≤ (s.dn.length : Int) - 1 := by omega
        have b3 : (s.dn.length : Int) - 1 < s.dn.length := by omega
        have HV := HF.out (lastI s.dn) true (by simp only [topP, h2, h0, h1, if_true, if_false])
        have HVh := Lib.hid HV
        clear HV h2
        go_enter Tryd.func11, Tryd.ntmps11
        go_wp2
        rw [← hw3]
        clear hw3
        go_loop [12] (fun i => i = .int .i64 0 ∨ i = .int .i64 1) (fun i => 2 - (intOf i).toNat)
        case atStart => exact .inl rfl
        case round =>
          rcases hrel with rfl | rfl
          · go_wp2
            simp [intOf]
          · go_wp2
            go_ret2
            exact HVh.out
      · have HV := HF.out 0 false (by simp only [topP, h2, h0, h1, if_true, if_false])
        have HVh := Lib.hid HV
        clear HV h2
        go_enter Tryd.func11, Tryd.ntmps11
        go_wp2
        rw [← hw3]
        clear hw3
        go_loop [12] (fun i => i = .int .i64 0 ∨ i = .int .i64 1 ∨ i = .int .i64 2) (fun i => 2 - (intOf i).toNat)
        case atStart => exact .inl rfl
        case round =>
          rcases hrel with rfl | rfl | rfl
          · go_wp2
            simp [intOf]
          · go_wp2
            simp [intOf]
          · go_wp2
            go_ret2
            exact HVh.out
  · have e2 : (s.ph == 2) = false := by simp [h2]
    have HV := HF.out 0 false (by simp only [topP, h2, if_false])
    have HVh := Lib.hid HV
    clear HV h2
    go_enter Tryd.func11, Tryd.ntmps11
    go_wp2
    rw [← hw3]
    clear hw3
    go_loop [12] (fun i => i = .int .i64 0 ∨ i = .int .i64 1 ∨ i = .int .i64 2) (fun i => 2 - (intOf i).toNat)
    case atStart => exact .inl rfl
    case round =>
      rcases hrel with rfl | rfl | rfl
      · go_wp2
        simp [intOf]
      · go_wp2
        simp [intOf]
      · go_wp2
        go_ret2
        exact HVh.out
end Go.Proofs.YtedalanhjhiehaaDoor
