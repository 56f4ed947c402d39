import Derived.Test.YtedalanhjhiehaaDoorQp
set_option linter.unusedSimpArgs false
namespace Go.Proofs.YtedalanhjhiehaaDoor
open Go.RowKit
open YtedalanhjhiehaaDoorW.PrintWords (nums ReadsInt rd own_slice own_typed Kd)

def OrP (n : Nat) (xs : List (Int × Int)) (w : World) (e : Ending) (w' : World) : Prop := ∃ (A : Option Addr) (m c : Nat), e = .returned (.tuple #[.slice A m c, .int .i64 (orderE n xs)]) ∧ Below w.heap.size w w'

theorem nodup_bound : ∀ (n : Nat) (l : List Nat), l.Nodup → (∀ x ∈ l, x < n) → l.length ≤ n
  | 0, l, _, h => by
    cases l with
    | nil => simp
    | cons x l => exact absurd (h x List.mem_cons_self) (by omega)
  | n + 1, l, hd, h => by
    by_cases hm : n ∈ l
    · have h1 := nodup_bound n (l.erase n) (hd.erase n) (fun x hx => by
        have h2 := (List.Nodup.mem_erase_iff hd).1 hx
        have := h x h2.2
        omega)
      rw [List.length_erase_of_mem hm] at h1
      omega
    · have h1 := nodup_bound n l hd (fun x hx => by
        have := h x hx
        have : x ≠ n := fun e => hm (e ▸ hx)
        omega)
      omega

/-- where Order stands at its label -/
structure OJ (n : Nat) (xs : List (Int × Int)) (w2 : World) (set : Nat) (sl : SL) (ids : List Nat) (wr : World) : Prop where
  own : OwI wr w2.heap.size sl (ids.map Int.ofNat)
  below : Below w2.heap.size w2 wr
  nodup : ids.Nodup
  bits : ∀ i ∈ ids, i < 64 ∧ set.testBit i = true
  run : ∃ f, 18446744073709551616 ≤ set + f ∧ ordRun n xs 18446744073709551616 0 0 = ordRun n xs f set ids.length

set_option maxHeartbeats 4000000 in
set_option maxRecDepth 100000 in
theorem order_any (n : Nat) (s : SL) (xs : List (Int × Int)) (w : World) (h : RdP w s xs) (hl : xs.length ≤ 1000) (hn : n ≤ 1000) (hT : Tab w) :
    Calls Tryd.prog 38 #[graphV n s xs] w (OrP n xs w) := by
  obtain ⟨A, cp⟩ := s
  obtain ⟨w2, hw2⟩ : ∃ w2, w2 = w.alloc (.cells #[.int .i64 n, .slice A xs.length cp] 76) := ⟨_, rfl⟩
  have hb2 : Below w.heap.size w w2 := by rw [hw2]; exact (Below.refl _ _).alloc (Nat.le_refl _) _
  have hc2 := heap_alloc_new w (.cells #[.int .i64 n, .slice A xs.length cp] 76)
  rw [← hw2] at hc2
  have c0 : w2.cell? ⟨w.heap.size, 0, none⟩ = some (.int .i64 n) := by rw [cell_at hc2]; rfl
  have c1 : w2.cell? ⟨w.heap.size, 1, none⟩ = some (.slice A xs.length cp) := by rw [cell_at hc2]; rfl
  have H := Lib.hid (h.below hb2)
  have HT := Lib.hid (hT.below hb2)
  have HB2 := Lib.hid hb2
  have HC := Lib.hid (And.intro c0 c1)
  clear h hb2 hc2 hT c0 c1
  unfold graphV SL.v at *
  cases hck : checkB n xs with
  | false =>
    have HR := Lib.hid hck
    have HZ : Hid (orderE n xs = 20) := Lib.hid (by simp [orderE, hck])
    clear hck
    go_enter Tryd.func38, Tryd.ntmps38
    go_wp2
    go_step3
    go_wp2_with (go_at_call 42; rw [← hw2]; refine (check_any n ⟨A, cp⟩ xs w2 H.out hl hn).mono ?_; rw [HR.out]; rintro e w3 ⟨he, hb⟩; obtain rfl : e = .returned (.int .i64 20) := he; have HB3 := Lib.hid hb; clear hb hw2)
    try rw [Exit.noGoto_ret]
    go_ret2
    exact ⟨none, 0, 0, by rw [HZ.out]; rfl, HB2.out.trans (HB3.out.mono HB2.out.size)⟩
  | true =>
    have HR := Lib.hid hck
    have hn64 : n ≤ 64 := by simp [checkB] at hck; exact hck.1
    clear hck
    go_enter Tryd.func38, Tryd.ntmps38
    go_wp2
    refine wp_scope_jumps 0 (fun a' w' => ∃ (set : Nat) (sl : SL) (ids : List Nat) (u7 u8 u14 u15 u16 u17 u18 u19 u20 u21 u22 u23 u24 u25 u26 u27 u28 : Value), a' = { tmps := #[.agg #[.int .i64 n, .slice A xs.length cp], .pointer (some ⟨w.heap.size, 0, none⟩), .slice none 0 0, .int .i64 0, .int .i64 0, .slice sl.a ids.length sl.c, .int .u64 (set : Int), u7, u8, .agg #[.int .i64 n, .slice A xs.length cp], .int .i64 0, .int .i64 0, .bool false, undef, u14, u15, u16, u17, u18, u19, u20, u21, u22, u23, u24, u25, u26, u27, u28, undef, undef, undef, undef, undef, undef], defers := [] } ∧ set < 18446744073709551616 ∧ Hid (OJ n xs w2 set sl ids w')) (fun a' _ => 18446744073709551616 - (intOf (a'.tmps.getD 6 undef)).toNat) rfl ?_ ?_
    · go_wp2_with (go_at_call 42; rw [← hw2]; refine (check_any n ⟨A, cp⟩ xs w2 H.out hl hn).mono ?_; rw [HR.out]; rintro e w3 ⟨he, hb⟩; obtain rfl : e = .returned (.int .i64 0) := he; have HB3 := Lib.hid hb; clear hb hw2)
      go_step3
      refine (?_ : ∀ (set : Nat) (sl : SL) (ids : List Nat), set < 18446744073709551616 → Hid (OJ n xs w2 set sl ids w3) → Exit.then _ _ Exit.normal { tmps := #[.agg #[.int .i64 n, .slice A xs.length cp], .pointer (some ⟨w.heap.size, 0, none⟩), .slice none 0 0, .int .i64 0, .int .i64 0, .slice sl.a ids.length sl.c, .int .u64 (set : Int), undef, undef, .agg #[.int .i64 n, .slice A xs.length cp], .int .i64 0, .int .i64 0, .bool false, undef, undef, undef, undef, undef, undef, undef, undef, undef, undef, undef, undef, undef, undef, undef, undef, undef, undef, undef, undef, undef, undef], defers := [] } w3) 0 ⟨none, 0⟩ [] (by decide) (Lib.hid ⟨owI_nil _ _, HB3.out, List.nodup_nil, (fun i hi => by cases hi), ⟨18446744073709551616, by omega, rfl⟩⟩)
      intro set sl ids hset HO
      have g0 := keep_cell HO.out.below HC.out.1
      have g1 := keep_cell HO.out.below HC.out.2
      by_cases h0 : readyN n xs set = 0
      · have HZ := Lib.hid h0
        have HQ : Hid (orderE n xs = if (ids).length < n then 21 else 0) := Lib.hid (by
          obtain ⟨f, _, hf⟩ := HO.out.run
          rw [ordRun_stop h0] at hf
          simp only [orderE, HR.out, if_true, hf])
        clear h0
        by_cases hc : (ids).length < n
        all_goals
          go_wp2_with (go_at_call 43; refine (ready_any n ⟨A, cp⟩ xs set _ (H.out.below HO.out.below) hl HR.out hset).mono ?_; rw [HZ.out]; rintro e w5 ⟨rfl, hb⟩; have HB5 := Lib.hid hb; have k0 := keep_cell hb g0; clear hb g0 g1)
          have HF := Lib.hid (HB2.out.trans ((HO.out.below.trans (HB5.out.mono HO.out.below.size)).mono HB2.out.size))
          try simp only [Exit.jump]
          go_ret2
          first
            | exact ⟨none, 0, 0, by rw [HQ.out, if_pos hc]; rfl, HF.out⟩
            | exact ⟨sl.a, (ids).length, sl.c, by rw [HQ.out, if_neg hc]; rfl, HF.out⟩
      · have hr := readyTo_small set (aheadN n xs) n hn64
        have hr : readyN n xs set < 18446744073709551616 := hr
        have hlt := ctz_lt _ hr h0
        have hgr := set_grows n xs set hn64 h0 hset
        have hne : ((readyN n xs set : Int) == 0) = false := by simp; exact h0
        have HJ : Hid (Lib.ctz 64 (readyN n xs set) ∉ (ids : List Nat)) := Lib.hid (fun hm => by
          have h1 := (HO.out.bits _ hm).2
          obtain ⟨_, h2⟩ := readyTo_bit set (aheadN n xs) n _ (ctz_bit _ hr h0)
          simp only [mayB, Bool.and_eq_true, decide_eq_true_eq] at h2
          have h3 := h2.1
          rw [Nat.and_one_is_mod] at h3
          have h4 : (set : Nat) / 2 ^ Lib.ctz 64 (readyN n xs set) % 2 = 0 := h3
          rw [Nat.testBit_eq_decide_div_mod_eq] at h1
          have h5 := of_decide_eq_true h1
          omega)
        have HN := Lib.hid (And.intro h0 hr)
        obtain ⟨i, hi⟩ : ∃ i, i = Lib.ctz 64 (readyN n xs set) := ⟨_, rfl⟩
        obtain ⟨nx, hnx⟩ : ∃ nx, nx = readyN n xs set := ⟨_, rfl⟩
        rw [← hi] at hlt hgr
        rw [← hnx] at hne
        have HE := Lib.hid (And.intro hi hnx)
        clear h0 hr hi hnx
        go_wp2_with (first | (go_at_call 43; refine (ready_any n ⟨A, cp⟩ xs set _ (H.out.below HO.out.below) hl HR.out hset).mono ?_; rw [← HE.out.2]; rintro e w5 ⟨rfl, hb⟩; have HB5 := Lib.hid hb; have k0 := keep_cell hb g0; have k1 := keep_cell hb g1; have HT5 := Lib.hid ((HT.out.below HO.out.below).below hb); clear hb g0 g1) | (go_at_call 44; refine (tz_any nx (by rw [HE.out.2]; exact HN.out.2) (by rw [HE.out.2]; exact HN.out.1) _ HT5.out).mono ?_; rw [HE.out.2, ← HE.out.1]; rintro e w6 ⟨rfl, rfl⟩))
        have HOw := HO.out.own.below HB5.out
        have hlen : (ids).length ≤ 64 := nodup_bound 64 _ HO.out.nodup (fun x hx => (HO.out.bits x hx).1)
        have hbz := Nat.le_trans HO.out.below.size HB5.out.size
        refine wp_region_K (N := 10) (fun _ => True) 9 (by kernel_rfl) rfl ?_
        refine wpAnyK_take (i := 0) (g := 10) (v := .slice sl.a (ids).length sl.c) rfl (by kernel_rfl) (fun _ _ _ h => h) (Or.inl ⟨by rfl, fun w' hw' => ?_⟩) trivial ?_
        · obtain _ := hw'
          go_simp
        try simp only [Act.put, List.setIfInBounds_toArray, List.set_cons_zero, List.set_cons_succ]
        refine wpAnyK_take (i := 1) (g := 10) (v := .int .i64 (i : Int)) rfl (by kernel_rfl) (fun _ _ _ h => h) (Or.inl ⟨by rfl, fun w' hw' => ?_⟩) trivial ?_
        · obtain _ := hw'
          go_simp
        try simp only [Act.put, List.setIfInBounds_toArray, List.set_cons_zero, List.set_cons_succ]
        refine wpAnyK_take (i := 4) (g := 10) (v := .int .u64 (set : Int)) rfl (by kernel_rfl) (fun _ _ _ h => h) (Or.inl ⟨by rfl, fun w' hw' => ?_⟩) trivial ?_
        · obtain _ := hw'
          go_simp
        try simp only [Act.put, List.setIfInBounds_toArray, List.set_cons_zero, List.set_cons_succ]
        refine wpAnyK_take (i := 5) (g := 10) (v := .int .i64 (i : Int)) rfl (by kernel_rfl) (fun _ _ _ h => h) (Or.inl ⟨by rfl, fun w' hw' => ?_⟩) trivial ?_
        · obtain _ := hw'
          go_simp
        try simp only [Act.put, List.setIfInBounds_toArray, List.set_cons_zero, List.set_cons_succ]
        refine wpAnyK_take (i := 6) (g := 10) (v := .int .u64 ((2 ^ i : Nat) : Int)) rfl (by kernel_rfl) (fun _ _ _ h => h) (Or.inl ⟨by rfl, fun w' hw' => ?_⟩) trivial ?_
        · obtain _ := hw'
          go_simp
          exact wrap_pow hlt
        try simp only [Act.put, List.setIfInBounds_toArray, List.set_cons_zero, List.set_cons_succ]
        refine wpAnyK_take (i := 7) (g := 10) (v := .int .u64 ((set ||| 2 ^ i : Nat) : Int)) rfl (by kernel_rfl) (fun _ _ _ h => h) (Or.inl ⟨by rfl, fun w' hw' => ?_⟩) trivial ?_
        · obtain _ := hw'
          go_simp
          exact or_pow hlt hset
        try simp only [Act.put, List.setIfInBounds_toArray, List.set_cons_zero, List.set_cons_succ]
        refine wpAnyK_one (i := 2) (by kernel_rfl) rfl rfl (fun K hK => ?_)
        go_simp
        refine hK.out _ _ (fun _ => trivial) ?_
        clear hK K
        try simp only [Act.put, List.setIfInBounds_toArray, List.set_cons_zero, List.set_cons_succ]
        refine wpAnyK_one (i := 3) (by kernel_rfl) rfl rfl (fun K hK => ?_)
        refine appendI_wp (W := w5.drew) (w0 := w2) (B := w2.heap.size) (s := .tmp 21) (x := .tmp 23) (sl := ⟨sl.a, sl.c⟩) (xs := ids.map Int.ofNat) (y := (i : Int)) rfl rfl (by rw [List.length_map]; rfl) rfl ⟨R_drew HOw.r⟩ (drew_below (HO.out.below.trans (HB5.out.mono HO.out.below.size))).out hbz (by rw [List.length_map]; omega) ?_
        intro sl7 w7 ho7 hb7 hg7
        refine hK.out _ _ (fun _ => trivial) ?_
        clear hK K
        try simp only [Act.put, List.setIfInBounds_toArray, List.set_cons_zero, List.set_cons_succ]
        refine wpAnyK_one (i := 8) (by kernel_rfl) rfl rfl (fun K hK => ?_)
        go_simp
        refine hK.out _ _ (fun _ => trivial) ?_
        clear hK K
        try simp only [Act.put, List.setIfInBounds_toArray, List.set_cons_zero, List.set_cons_succ]
        refine wpAnyK_one (i := 9) (by kernel_rfl) rfl rfl (fun K hK => ?_)
        go_simp
        refine hK.out _ _ (fun _ => trivial) ?_
        clear hK K
        try simp only [Act.put, List.setIfInBounds_toArray, List.set_cons_zero, List.set_cons_succ]
        refine wpAnyK_done (by kernel_rfl) ?_
        have HX : Hid (OJ n xs w2 (set ||| 2 ^ i) sl7 (ids ++ [i]) w7) := Lib.hid ⟨by rw [List.map_append]; exact ho7, hb7, by
            rw [List.nodup_append]
            exact ⟨HO.out.nodup, by simp, fun a ha b hb => by
              have : b = i := by simpa using hb
              rintro rfl
              rw [this, HE.out.1] at ha
              exact HJ.out ha⟩, fun j hj => by
            rcases List.mem_append.1 hj with hj | hj
            · obtain ⟨h1, h2⟩ := HO.out.bits j hj
              exact ⟨h1, by rw [Nat.testBit_or, h2]; rfl⟩
            · have : j = i := by simpa using hj
              subst this
              exact ⟨hlt, by rw [Nat.testBit_or, Nat.testBit_two_pow]; simp⟩, by
            obtain ⟨f, hf, hf2⟩ := HO.out.run
            refine ⟨f - 1, by omega, ?_⟩
            rw [hf2, ordRun_step HN.out.1 (by omega), ← HE.out.1, List.length_append]
            rfl⟩
        have hlA : (ids).length + 1 = (ids ++ [i]).length := by simp
        rw [hlA]
        clear hlA
        go_wp2
        go_step3
        exact ⟨rfl, _, sl7, ids ++ [i], _, _, _, _, _, _, _, _, _, _, _, _, _, _, _, _, _, rfl, hgr.2, HX⟩
    · rintro a' wr ⟨set, sl, ids, u7, u8, u14, u15, u16, u17, u18, u19, u20, u21, u22, u23, u24, u25, u26, u27, u28, rfl, hset, HO⟩
      have g0 := keep_cell HO.out.below HC.out.1
      have g1 := keep_cell HO.out.below HC.out.2
      by_cases h0 : readyN n xs set = 0
      · have HZ := Lib.hid h0
        have HQ : Hid (orderE n xs = if (ids).length < n then 21 else 0) := Lib.hid (by
          obtain ⟨f, _, hf⟩ := HO.out.run
          rw [ordRun_stop h0] at hf
          simp only [orderE, HR.out, if_true, hf])
        clear h0
        by_cases hc : (ids).length < n
        all_goals
          go_wp2_with (go_at_call 43; refine (ready_any n ⟨A, cp⟩ xs set _ (H.out.below HO.out.below) hl HR.out hset).mono ?_; rw [HZ.out]; rintro e w5 ⟨rfl, hb⟩; have HB5 := Lib.hid hb; have k0 := keep_cell hb g0; clear hb g0 g1)
          have HF := Lib.hid (HB2.out.trans ((HO.out.below.trans (HB5.out.mono HO.out.below.size)).mono HB2.out.size))
          try simp only [Exit.jump]
          go_ret2
          first
            | exact ⟨none, 0, 0, by rw [HQ.out, if_pos hc]; rfl, HF.out⟩
            | exact ⟨sl.a, (ids).length, sl.c, by rw [HQ.out, if_neg hc]; rfl, HF.out⟩
      · have hr := readyTo_small set (aheadN n xs) n hn64
        have hr : readyN n xs set < 18446744073709551616 := hr
        have hlt := ctz_lt _ hr h0
        have hgr := set_grows n xs set hn64 h0 hset
        have hne : ((readyN n xs set : Int) == 0) = false := by simp; exact h0
        have HJ : Hid (Lib.ctz 64 (readyN n xs set) ∉ (ids : List Nat)) := Lib.hid (fun hm => by
          have h1 := (HO.out.bits _ hm).2
          obtain ⟨_, h2⟩ := readyTo_bit set (aheadN n xs) n _ (ctz_bit _ hr h0)
          simp only [mayB, Bool.and_eq_true, decide_eq_true_eq] at h2
          have h3 := h2.1
          rw [Nat.and_one_is_mod] at h3
          have h4 : (set : Nat) / 2 ^ Lib.ctz 64 (readyN n xs set) % 2 = 0 := h3
          rw [Nat.testBit_eq_decide_div_mod_eq] at h1
          have h5 := of_decide_eq_true h1
          omega)
        have HN := Lib.hid (And.intro h0 hr)
        obtain ⟨i, hi⟩ : ∃ i, i = Lib.ctz 64 (readyN n xs set) := ⟨_, rfl⟩
        obtain ⟨nx, hnx⟩ : ∃ nx, nx = readyN n xs set := ⟨_, rfl⟩
        rw [← hi] at hlt hgr
        rw [← hnx] at hne
        have HE := Lib.hid (And.intro hi hnx)
        clear h0 hr hi hnx
        go_wp2_with (first | (go_at_call 43; refine (ready_any n ⟨A, cp⟩ xs set _ (H.out.below HO.out.below) hl HR.out hset).mono ?_; rw [← HE.out.2]; rintro e w5 ⟨rfl, hb⟩; have HB5 := Lib.hid hb; have k0 := keep_cell hb g0; have k1 := keep_cell hb g1; have HT5 := Lib.hid ((HT.out.below HO.out.below).below hb); clear hb g0 g1) | (go_at_call 44; refine (tz_any nx (by rw [HE.out.2]; exact HN.out.2) (by rw [HE.out.2]; exact HN.out.1) _ HT5.out).mono ?_; rw [HE.out.2, ← HE.out.1]; rintro e w6 ⟨rfl, rfl⟩))
        have HOw := HO.out.own.below HB5.out
        have hlen : (ids).length ≤ 64 := nodup_bound 64 _ HO.out.nodup (fun x hx => (HO.out.bits x hx).1)
        have hbz := Nat.le_trans HO.out.below.size HB5.out.size
        refine wp_region_K (N := 10) (fun _ => True) 9 (by kernel_rfl) rfl ?_
        refine wpAnyK_take (i := 0) (g := 10) (v := .slice sl.a (ids).length sl.c) rfl (by kernel_rfl) (fun _ _ _ h => h) (Or.inl ⟨by rfl, fun w' hw' => ?_⟩) trivial ?_
        · obtain _ := hw'
          go_simp
        try simp only [Act.put, List.setIfInBounds_toArray, List.set_cons_zero, List.set_cons_succ]
        refine wpAnyK_take (i := 1) (g := 10) (v := .int .i64 (i : Int)) rfl (by kernel_rfl) (fun _ _ _ h => h) (Or.inl ⟨by rfl, fun w' hw' => ?_⟩) trivial ?_
        · obtain _ := hw'
          go_simp
        try simp only [Act.put, List.setIfInBounds_toArray, List.set_cons_zero, List.set_cons_succ]
        refine wpAnyK_take (i := 4) (g := 10) (v := .int .u64 (set : Int)) rfl (by kernel_rfl) (fun _ _ _ h => h) (Or.inl ⟨by rfl, fun w' hw' => ?_⟩) trivial ?_
        · obtain _ := hw'
          go_simp
        try simp only [Act.put, List.setIfInBounds_toArray, List.set_cons_zero, List.set_cons_succ]
        refine wpAnyK_take (i := 5) (g := 10) (v := .int .i64 (i : Int)) rfl (by kernel_rfl) (fun _ _ _ h => h) (Or.inl ⟨by rfl, fun w' hw' => ?_⟩) trivial ?_
        · obtain _ := hw'
          go_simp
        try simp only [Act.put, List.setIfInBounds_toArray, List.set_cons_zero, List.set_cons_succ]
        refine wpAnyK_take (i := 6) (g := 10) (v := .int .u64 ((2 ^ i : Nat) : Int)) rfl (by kernel_rfl) (fun _ _ _ h => h) (Or.inl ⟨by rfl, fun w' hw' => ?_⟩) trivial ?_
        · obtain _ := hw'
          go_simp
          exact wrap_pow hlt
        try simp only [Act.put, List.setIfInBounds_toArray, List.set_cons_zero, List.set_cons_succ]
        refine wpAnyK_take (i := 7) (g := 10) (v := .int .u64 ((set ||| 2 ^ i : Nat) : Int)) rfl (by kernel_rfl) (fun _ _ _ h => h) (Or.inl ⟨by rfl, fun w' hw' => ?_⟩) trivial ?_
        · obtain _ := hw'
          go_simp
          exact or_pow hlt hset
        try simp only [Act.put, List.setIfInBounds_toArray, List.set_cons_zero, List.set_cons_succ]
        refine wpAnyK_one (i := 2) (by kernel_rfl) rfl rfl (fun K hK => ?_)
        go_simp
        refine hK.out _ _ (fun _ => trivial) ?_
        clear hK K
        try simp only [Act.put, List.setIfInBounds_toArray, List.set_cons_zero, List.set_cons_succ]
        refine wpAnyK_one (i := 3) (by kernel_rfl) rfl rfl (fun K hK => ?_)
        refine appendI_wp (W := w5.drew) (w0 := w2) (B := w2.heap.size) (s := .tmp 21) (x := .tmp 23) (sl := ⟨sl.a, sl.c⟩) (xs := ids.map Int.ofNat) (y := (i : Int)) rfl rfl (by rw [List.length_map]; rfl) rfl ⟨R_drew HOw.r⟩ (drew_below (HO.out.below.trans (HB5.out.mono HO.out.below.size))).out hbz (by rw [List.length_map]; omega) ?_
        intro sl7 w7 ho7 hb7 hg7
        refine hK.out _ _ (fun _ => trivial) ?_
        clear hK K
        try simp only [Act.put, List.setIfInBounds_toArray, List.set_cons_zero, List.set_cons_succ]
        refine wpAnyK_one (i := 8) (by kernel_rfl) rfl rfl (fun K hK => ?_)
        go_simp
        refine hK.out _ _ (fun _ => trivial) ?_
        clear hK K
        try simp only [Act.put, List.setIfInBounds_toArray, List.set_cons_zero, List.set_cons_succ]
        refine wpAnyK_one (i := 9) (by kernel_rfl) rfl rfl (fun K hK => ?_)
        go_simp
        refine hK.out _ _ (fun _ => trivial) ?_
        clear hK K
        try simp only [Act.put, List.setIfInBounds_toArray, List.set_cons_zero, List.set_cons_succ]
        refine wpAnyK_done (by kernel_rfl) ?_
        have HX : Hid (OJ n xs w2 (set ||| 2 ^ i) sl7 (ids ++ [i]) w7) := Lib.hid ⟨by rw [List.map_append]; exact ho7, hb7, by
            rw [List.nodup_append]
            exact ⟨HO.out.nodup, by simp, fun a ha b hb => by
              have : b = i := by simpa using hb
              rintro rfl
              rw [this, HE.out.1] at ha
              exact HJ.out ha⟩, fun j hj => by
            rcases List.mem_append.1 hj with hj | hj
            · obtain ⟨h1, h2⟩ := HO.out.bits j hj
              exact ⟨h1, by rw [Nat.testBit_or, h2]; rfl⟩
            · have : j = i := by simpa using hj
              subst this
              exact ⟨hlt, by rw [Nat.testBit_or, Nat.testBit_two_pow]; simp⟩, by
            obtain ⟨f, hf, hf2⟩ := HO.out.run
            refine ⟨f - 1, by omega, ?_⟩
            rw [hf2, ordRun_step HN.out.1 (by omega), ← HE.out.1, List.length_append]
            rfl⟩
        have hlA : (ids).length + 1 = (ids ++ [i]).length := by simp
        rw [hlA]
        clear hlA
        go_wp2
        go_step3
        refine ⟨rfl, ⟨_, sl7, ids ++ [i], _, _, _, _, _, _, _, _, _, _, _, _, _, _, _, _, _, rfl, hgr.2, HX⟩, ?_⟩
        simp [intOf]
        omega
end Go.Proofs.YtedalanhjhiehaaDoor
