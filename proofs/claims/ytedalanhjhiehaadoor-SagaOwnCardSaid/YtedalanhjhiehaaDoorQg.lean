import Derived.Test.YtedalanhjhiehaaDoorQf
namespace Go.Proofs.YtedalanhjhiehaaDoor
open Go.RowKit
open YtedalanhjhiehaaDoorW.PrintWords (nums ReadsInt rd own_slice own_typed Kd)

/-- what a drop from a row of one's own leaves -/
def Cut (xs : List Int) (v : Int) (B : Nat) (w : World) (row : Option Nat) (e : Ending) (w' : World) : Prop :=
  ∃ s' : SL, e = .returned (s'.v (dropL xs v).length) ∧ OwI w' B s' (dropL xs v) ∧ w.grownBy w' row
theorem cut_end {w wr : World} {B g n cap : Nat} {xs : List Int} {v : Int} {i : Nat} (h : DR w B g n cap xs v i n wr) (hn : xs.length = n) :
    Cut xs v B w (some g) (.returned (.slice (some ⟨g, 0, none⟩) i cap)) (wr.setCells g i (List.replicate (n - i) (.int .i64 0))) := by
  obtain ⟨h1, h2, h3, _⟩ := dr_end h hn
  exact ⟨⟨some ⟨g, 0, none⟩, cap⟩, by rw [SL.v, h1], ⟨by rw [SL.v, h1]; exact h2⟩, h3⟩
theorem zero3 (w : World) : (zeroValue 3).run Tryd.prog w = .ok (.int .i64 0) w := by go_simp

theorem dr_clear {w wr : World} {B g n cap : Nat} {xs : List Int} {v : Int} {i : Nat} (h : DR w B g n cap xs v i n wr) (hn : xs.length = n) (ty : TypeId) :
    (Builtin.clear_ #[22] ty #[.slice (some ⟨g, i, none⟩) (n - i) (cap - i)]).run Tryd.prog wr = .ok (.tuple #[]) (wr.setCells g i (List.replicate (n - i) (.int .i64 0))) := by
  obtain ⟨_, _, _, h4, h5, h6⟩ := dr_end h hn
  exact Lib.run_clear_slice wr 22 3 ty (.int .i64 0) Tryd.underlying22 zero3 rfl rfl g i (n - i) (cap - i) (by have := h.lt; omega) h5 h6

set_option maxHeartbeats 2000000 in
theorem deleteFunc_any (s : SL) (xs : List Int) (st : Int) (P B : Nat) (w : World) (hP : w.cell? ⟨P, 0, none⟩ = some (.int .i64 st)) (h : OwI w B s xs) (hl : xs.length ≤ 1000) (hPB : P < B) :
    Calls Tryd.prog 33 #[s.v xs.length, .func (.func 34) #[] #[.pointer (some ⟨P, 0, none⟩)]] w (Cut xs st B w (s.v xs.length).ownBlock) := by
  have HI := Lib.hid (indexI_any s xs st P w hP h.rd (by omega))
  have H := Lib.hid h
  have HP := Lib.hid hP
  clear h hP
  by_cases hin : ∀ x ∈ xs, x ≠ st
  · have HX : Hid (Cut xs st B w (s.v xs.length).ownBlock (.returned (s.v xs.length)) w) := Lib.hid ⟨s, by rw [dropL_none hin], by rw [dropL_none hin]; exact H.out, World.grownBy.refl _ _⟩
    have HN := Lib.hid hin
    clear hin
    unfold SL.v at *
    go_enter Tryd.func33, Tryd.ntmps33
    go_wp2_with (refine HI.out.mono ?_; rintro e w' ⟨hw, hf⟩; rcases hf with ⟨rfl, _⟩ | ⟨k, hk, _, hk2, _⟩; rotate_left; exact absurd hk2 (HN.out _ (List.getElem_mem hk)); obtain rfl := hw)
    go_ret
    exact HX.out
  · obtain ⟨A, cap⟩ := s
    have hform : ∃ g, A = some ⟨g, 0, none⟩ ∧ B ≤ g := by
      obtain ⟨_, inner, ho, _⟩ := H.out.r
      rcases ho.2 with ⟨hv, h0⟩ | ⟨g, cap', cur, hv, hb, _⟩
      · exact absurd (fun x hx => by have := List.length_pos_of_mem hx; omega) hin
      · injection hv with ha _ hc
        exact ⟨g, ha, hb⟩
    obtain ⟨g, rfl, hBg⟩ := hform
    have hgP : P ≠ g := by omega
    have HR0 := H.out.r
    have hcap : xs.length ≤ cap := H.out.rd.le
    have HR := Lib.hid HR0
    have HN := Lib.hid hin
    clear hin HR0
    unfold SL.v at *
    go_enter Tryd.func33, Tryd.ntmps33
    go_wp2_with (refine HI.out.mono ?_; rintro e w' ⟨hw, hf⟩; rcases hf with ⟨_, hno⟩ | ⟨k, hk, rfl, hk2, hk3⟩; exact absurd hno HN.out; obtain rfl := hw; have HK : Hid (DR w B g xs.length cap xs st k (k + 1) w) := Lib.hid ⟨by omega, by omega, ⟨xs, rfl, by rw [take_succ' hk, dropL, List.filter_append]; simp [hk2]; exact (List.filter_eq_self.2 fun x hx => by obtain ⟨j, hj, rfl⟩ := List.mem_iff_getElem.1 hx; rw [List.length_take] at hj; rw [List.getElem_take]; simp [hk3 j (by omega) (by omega)]).symm, fun m _ => rfl, HR.out⟩, World.grownBy.refl _ _⟩; have hk1 : ((k : Int) == -1) = false := beq_eq_false_iff_ne.2 (by omega); clear hk2 hk3)
    go_loopw [5, 6] (fun si sj wr => ∃ i j : Nat, si = .int .i64 i ∧ sj = .int .i64 j ∧ i < j ∧ j ≤ xs.length ∧ Hid (DR w B g xs.length cap xs st i j wr)) (fun _ sj _ => xs.length - (intOf sj).toNat)
    case atStart => exact ⟨k, k + 1, rfl, by go_num, by omega, by omega, HK⟩
    case round =>
      obtain ⟨i, j, rfl, rfl, hij, hjl, HD⟩ := hrel
      by_cases hlt : j < xs.length
      · obtain ⟨c1, ⟨u, c2⟩, c3⟩ := dr_cells HD.out hlt rfl
        have hPr : wr.cell? ⟨P, 0, none⟩ = some (.int .i64 st) := by
          have := HD.out.grown.block P (World.block_lt_of_cell? w _ HP.out) (by simp [hgP])
          have h := HP.out
          simp only [World.cell?] at h ⊢
          rwa [this]
        have HPr := Lib.hid hPr
        clear hPr
        by_cases hv : xs[j] = st
        · have HV := Lib.hid (show (xs[j] == st) = true by simp [hv])
          have HD2 := Lib.hid (dr_skip HD.out hlt rfl hv)
          clear hv
          go_wp2_with (refine (drop1_any _ _ _ _ HPr.out).mono ?_; rw [HV.out]; rintro e w' ⟨rfl, rfl⟩)
          go_roundw
          case rel => exact ⟨i, j + 1, rfl, by go_num, by omega, by omega, HD2⟩
          case measure => simp [intOf]; omega
        · have HV := Lib.hid (show (xs[j] == st) = false by simp [hv])
          have HD2 := Lib.hid (dr_keep HD.out hlt rfl hv)
          clear hv
          go_wp2_with (refine (drop1_any _ _ _ _ HPr.out).mono ?_; rw [HV.out]; rintro e w' ⟨rfl, rfl⟩)
          go_roundw
          case rel => exact ⟨i + 1, j + 1, by go_num, by go_num, by omega, by omega, HD2⟩
          case measure => simp [intOf]; omega
      · obtain rfl : j = xs.length := by omega
        have hcl := dr_clear HD.out rfl
        have HE := Lib.hid (cut_end HD.out rfl)
        have hne : ¬ cap = i := by omega
        go_wp2
        go_ret
        exact HE.out
end Go.Proofs.YtedalanhjhiehaaDoor
