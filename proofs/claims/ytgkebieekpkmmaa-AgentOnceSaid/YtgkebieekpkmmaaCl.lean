import Derived.Test.YtgkebieekpkmmaaChecked
import Derived.WalkKit
import Derived.WalkSpells
import Derived.WalkLawsBesides
import Derived.Laws.ComplexArith
import Derived.Deep.QuietTactic
import Derived.BigQuiet
import Derived.Lib.Hide
import Derived.Test.YtgkebieekpkmmaaGs
namespace Go.Proofs.Ytgkebieekpkmmaa
open Go.RowKit

theorem Try.info26 : (Try.prog.info? 26).map (fun i => (i.zero, i.size, i.bytes)) = some (some (.complex .f64 0 0), 1, 16) := by kernel_rfl

theorem pw_cell_alloc (w : World) (o : Obj) (a : Addr) {v : Value} (h : w.cell? a = some v) : (w.alloc o).cell? a = some v :=
  (((Below.refl w.heap.size w).alloc (Nat.le_refl _) o).cell (World.block_lt_of_cell? w a h)).trans h

theorem clone_cx (ad : Addr) (n c : Nat) (news : List Value) (hl : news.length = n) (w : World) (hb : n * 16 ≤ 140737488355328)
    (hc : ∀ j u, news[j]? = some u → w.cell? (ad.add j) = some u) (h1 : ∀ u ∈ news, u.oneCell' = true) :
    Calls Try.prog 12 #[.slice (some ad) n c] w fun e w' => ∃ v, e = .returned v ∧ w'.ownsRow w.heap.size 26 1 v n news ∧ Below w.heap.size w w' := by
  obtain ⟨i0, hi, hz0, hz1, hz2⟩ := info_parts Try.info26
  have kn := fun (w : World) => Lib.run_eql_slice_nil (P := Try.prog) w 27 26 (some ad) n c 0 0 Try.underlying27
  have Hc := Lib.hid hc
  have H1 := Lib.hid h1
  clear hc h1
  go_enter Try.func12, Try.ntmps12
  go_wp2_with (at_builtin; go_loud (refine wpList_append_own _ rfl _ _ 27 rfl w.heap.size 26 i0 (.complex .f64 0 0) 1 16 Try.underlying27 hi hz0 hz1 hz2 rfl (by decide) _ 0 [] rfl ?_ ad n c news rfl (by omega) ?_ H1.out (by simp only [maxLen]; omega) (by omega) ?_ ?_))
  case refine_1 => exact World.ownsRow_made w #[] 0 (Nat.le_refl _) (by simp [maxLen]) (by simp)
  case refine_2 => exact fun j u hu => pw_cell_alloc _ _ _ (Hc.out j u hu)
  case refine_3 => simp
  case refine_4 =>
    intro v1 w1 hown hgr _
    go_wp2
    go_ret
    refine ⟨v1, rfl, hown, ?_⟩
    refine ((Below.refl w.heap.size w).alloc (Nat.le_refl _) (.cells #[] 26)).grown hgr (by simp) ?_
    intro k hk
    simp [Value.ownBlock] at hk
    omega

end Go.Proofs.Ytgkebieekpkmmaa
