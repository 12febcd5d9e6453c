/- What a few functions of the program compute, part L2. -/
import Derived.Test.YtjcebkhhgdgohaaL1
import Derived.Test.YtjcebkhhgdgohaaEngQ
namespace Go.Proofs.Ytjcebkhhgdgohaa
open Go Go.RowKit Go.Eng
theorem cf_23 : callable Try.prog 23 = true := by kernel_rfl
theorem cf_24 : callable Try.prog 24 = true := by kernel_rfl
theorem someT_32 : (Try.prog.underlying 32).isSome = true := by kernel_rfl

theorem flat_le (ls : List (List UInt8)) (b : Nat) : ∀ k, k ≤ ls.length → (∀ j (hj : j < ls.length), j < k → (ls[j]).length ≤ b) → (ls.take k).flatten.length ≤ k * b := by
  intro k
  induction k with
  | zero => intro _ _; simp
  | succ k ih =>
    intro hk h
    have h1 := ih (by omega) (fun j hj hjk => h j hj (by omega))
    have h2 := h k (by omega) (by omega)
    rw [List.take_succ_eq_append_getElem (by omega), List.flatten_append, List.flatten_singleton, List.length_append, Nat.succ_mul]
    omega
theorem flat_all (ls : List (List UInt8)) (b : Nat) (h : ∀ j (hj : j < ls.length), (ls[j]).length ≤ b) (k : Nat) : (ls.take k).flatten.length ≤ ls.length * b := by
  by_cases hk : k ≤ ls.length
  · exact Nat.le_trans (flat_le ls b k hk (fun j hj _ => h j hj)) (Nat.mul_le_mul_right _ hk)
  · rw [List.take_of_length_le (by omega)]
    have := flat_le ls b ls.length (Nat.le_refl _) (fun j hj _ => h j hj)
    rwa [List.take_length] at this

set_option maxRecDepth 100000 in
theorem shaSums_c (A : Option Addr) (m c : Nat) (ls : List (List UInt8)) (w0 : World) (hl : RsL w0 (.slice A m c) ls) : Calls Try.prog 4 #[.slice A m c] w0 fun e w => e = .returned (.bool true) ∧ Fr No w0 w := by
  obtain ⟨vs, hvs, hvl, hall⟩ := hl
  have hln := hvs.len
  have hmx : m ≤ 9223372036854775807 := by have := hvs.len; simp only [maxLen] at this; omega
  refine calls_of_WC (args := [.slice A m c]) Try.func4 rfl Try.ntmps4 rfl ?_
  show WC _ _ _ _ [(0, .slice A m c)] _
  have hS := ST.start w0 No
  refine WC.seq ?_
  refine WC.region ?_
  refine WL.pv (pv_assign rfl) rfl ?_
  refine WL.nil ?_
  refine QN.thenW ?_
  refine WC.seq ?_
  refine WC.seq ?_
  refine WC.region ?_
  refine WL.call (args := []) cf_19 rfl rfl (wakes_c _) ?_
  rintro _ w ⟨rfl, hF⟩
  refine ⟨_, rfl, ?_⟩
  replace hS := hS.no hF
  refine WL.pv (pv_not rfl) rfl ?_
  refine WL.nil ?_
  refine QN.thenW ?_
  refine WC.condF rfl rfl ?_
  refine WC.skip ?_
  refine QN.thenW ?_
  refine WC.seq ?_
  refine WC.seq ?_
  refine WC.region ?_
  refine WL.pv (pv_move rfl) rfl ?_
  refine WL.pv (pv_len slS_29 rfl) rfl ?_
  refine WL.pv (pv_gtr rfl rfl) rfl ?_
  refine WL.nil ?_
  refine QN.thenW ?_
  refine WC.condD rfl (fun hc8 => ?_) (fun hc8 => ?_)
  · skip
    refine WC.seq ?_
    refine WC.region ?_
    refine WL.pv (pv_assign rfl) rfl ?_
    refine WL.nil ?_
    refine QN.thenW ?_
    refine WC.ret ?_
    refine QN.thenR ?_
    refine QN.ret1 rfl rfl ?_
    exact ⟨by simp, hS.fr⟩
  · skip
    have h30 : m ≤ 30 := by omega
    refine WC.skip ?_
    refine QN.thenW ?_
    refine WC.seq ?_
    refine WC.seq ?_
    refine WC.region ?_
    refine WL.pv (pv_move rfl) rfl ?_
    refine WL.pv (pv_len slS_29 rfl) rfl ?_
    refine WL.pv (pv_move rfl) rfl ?_
    refine WL.nil ?_
    refine QN.thenW ?_
    refine WC.block ?_
    refine WC.loop (α := Nat) (fun k => [(0, .slice A m c), (10, .int .i64 (m : Int)), (11, .int .i64 (k : Int))]) (fun k w => k ≤ m ∧ (∀ j (hj : j < ls.length), j < k → (ls[j]).length ≤ 300) ∧ ST w0 No w []) (fun k => m - k) (0) (Sub.cons rfl (Sub.cons rfl (Sub.cons rfl Sub.nil))) ⟨by omega, fun j hj h => by omega, hS⟩ ?_
    rintro k w N hN hR
    obtain ⟨hk, hall3, hS⟩ := hR
    refine WC.seq ?_
    refine WC.region ?_
    refine WL.pv (pv_lss rfl rfl) rfl ?_
    refine WL.nil ?_
    refine QN.thenW ?_
    refine WC.seq ?_
    refine WC.condD rfl (fun hc12 => ?_) (fun hc12 => ?_)
    · skip
      have hkm : k < m := by omega
      obtain ⟨bb, o, rfl, _, hc1, hc2, hcell⟩ := hvs.at_ (by omega)
      have hvk := hall k (by omega) (by omega)
      obtain ⟨A', n', c', hv', _, _, hl', _⟩ := id hvk
      rw [bs8_len, Nat.mul_one] at hl' 
      refine WC.skip ?_
      refine QN.thenW ?_
      refine WC.seq ?_
      refine WC.block ?_
      refine WC.seq ?_
      refine WC.region ?_
      refine WL.pv (pv_move rfl) rfl ?_
      refine WL.pv (pv_assign rfl) rfl ?_
      refine WL.nil ?_
      refine QN.thenW ?_
      refine WC.seq ?_
      refine WC.region ?_
      refine WL.pv (pv_move rfl) rfl ?_
      refine WL.pv (pv_move rfl) rfl ?_
      refine WL.pv (pv_indexAddrS1 slT_29 rfl rfl rfl (by omega)) rfl ?_
      refine WL.rv (rv_load oneT_22 rfl (hS.fr.cellS (hcell k _ (by rw [List.getElem?_eq_getElem (by omega), hv'])) (fun h => h))) rfl ?_
      refine WL.pv (pv_len slS_22 rfl) rfl ?_
      refine WL.pv (pv_gtr rfl rfl) rfl ?_
      refine WL.nil ?_
      refine QN.thenW ?_
      refine WC.condD rfl (fun hc19 => ?_) (fun hc19 => ?_)
      · skip
        refine WC.seq ?_
        refine WC.region ?_
        refine WL.pv (pv_assign rfl) rfl ?_
        refine WL.nil ?_
        refine QN.thenW ?_
        refine WC.ret ?_
        refine QN.blockR ?_
        refine QN.thenR ?_
        refine QN.thenR ?_
        refine QN.blockR ?_
        refine QN.thenR ?_
        refine QN.ret1 rfl rfl ?_
        exact ⟨by simp, hS.fr⟩
      · skip
        refine WC.skip ?_
        refine QN.blockN ?_
        refine QN.thenW ?_
        refine WC.region ?_
        refine WL.pv (pv_add rfl rfl (by omega)) rfl ?_
        refine WL.pv (pv_move rfl) rfl ?_
        refine WL.nil ?_
        refine QN.roundE ?_
        refine ⟨(k + 1), (Sub.cons rfl (Sub.cons rfl (Sub.cons rfl Sub.nil))), ⟨by omega, fun j hj h => by
  by_cases hjk : j = k
  · subst hjk; omega
  · exact hall3 j hj (by omega), hS⟩, ?_⟩
        first | omega | (dsimp only; omega)
    · skip
      obtain rfl : k = m := by omega
      refine WC.exit ?_
      refine QN.thenX ?_
      refine QN.thenX ?_
      refine QN.blockX ?_
      refine QN.thenW ?_
      refine WC.seq ?_
      refine WC.region ?_
      refine WL.pv (pv_move rfl) rfl ?_
      refine WL.call (args := [.tmp 21]) cf_23 rfl rfl (sums_c _ _ _ ls _ (RsL.fr ⟨vs, hvs, hvl, hall⟩ hS.fr (fun _ _ h => h))) ?_
      rintro _ w ⟨rfl, hF⟩
      refine ⟨_, rfl, ?_⟩
      replace hS := hS.no hF
      refine WL.pv (pv_move rfl) rfl ?_
      refine WL.call (args := [.tmp 23]) cf_24 rfl rfl (refSums_c _ _ _ ls _ (RsL.fr ⟨vs, hvs, hvl, hall⟩ hS.fr (fun _ _ h => h)) (fun q => by have := flat_all ls 300 (fun j hj => hall3 j hj (by omega)) q; omega)) ?_
      rintro _ w ⟨rfl, hF⟩
      refine ⟨_, rfl, ?_⟩
      replace hS := hS.no hF
      rw [sha_eq]
      refine WL.pv (pv_eqlA8 Try.underlying25 Try.underlying5 cellsT_5 eqgT_25 rfl rfl (refV_len _) (refV_len _)) rfl ?_
      refine WL.pv (pv_assign rfl) rfl ?_
      refine WL.nil ?_
      refine QN.thenW ?_
      refine WC.ret ?_
      refine QN.ret1 rfl rfl ?_
      exact ⟨by simp, hS.fr⟩

set_option maxRecDepth 100000 in
theorem shaCut_c (A : Option Addr) (m c i j : Nat) (bl : List UInt8) (w0 : World) (hb : Rs w0 (.slice A m c) 1 (bs8 bl)) (hi : i < 65536) (hj : j < 65536) : Calls Try.prog 5 #[.slice A m c, .int .u16 (i : Int), .int .u16 (j : Int)] w0 fun e w => e = .returned (.bool true) ∧ Fr No w0 w := by
  have hln := hb.len
  rw [bs8_len] at hln
  have hmx : m ≤ 9223372036854775807 := by have := hln; simp only [maxLen] at this; omega
  refine calls_of_WC (args := [.slice A m c, .int .u16 (i : Int), .int .u16 (j : Int)]) Try.func5 rfl Try.ntmps5 rfl ?_
  show WC _ _ _ _ [(0, .slice A m c), (1, .int .u16 (i : Int)), (2, .int .u16 (j : Int))] _
  have hS := ST.start w0 No
  refine WC.seq ?_
  refine WC.region ?_
  refine WL.pv (pv_assign rfl) rfl ?_
  refine WL.nil ?_
  refine QN.thenW ?_
  refine WC.seq ?_
  refine WC.seq ?_
  refine WC.region ?_
  refine WL.call (args := []) cf_19 rfl rfl (wakes_c _) ?_
  rintro _ w ⟨rfl, hF⟩
  refine ⟨_, rfl, ?_⟩
  replace hS := hS.no hF
  refine WL.pv (pv_not rfl) rfl ?_
  refine WL.nil ?_
  refine QN.thenW ?_
  refine WC.condF rfl rfl ?_
  refine WC.skip ?_
  refine QN.thenW ?_
  refine WC.seq ?_
  refine WC.seq ?_
  refine WC.region ?_
  refine WL.pv (pv_move rfl) rfl ?_
  refine WL.pv (pv_len slS_22 rfl) rfl ?_
  refine WL.pv (pv_gtr rfl rfl) rfl ?_
  refine WL.nil ?_
  refine QN.thenW ?_
  refine WC.condD rfl (fun hc13 => ?_) (fun hc13 => ?_)
  · skip
    refine WC.seq ?_
    refine WC.region ?_
    refine WL.pv (pv_assign rfl) rfl ?_
    refine WL.nil ?_
    refine QN.thenW ?_
    refine WC.ret ?_
    refine QN.thenR ?_
    refine QN.ret1 rfl rfl ?_
    exact ⟨by simp, hS.fr⟩
  · skip
    have h3000 : bl.length ≤ 3000 := by omega
    refine WC.skip ?_
    refine QN.thenW ?_
    refine WC.seq ?_
    refine WC.region ?_
    refine WL.pv (pv_move rfl) rfl ?_
    refine WL.pv (pv_conv someT_32 Try.underlying3 rfl (cv_i_i (i : Int) (by omega))) rfl ?_
    refine WL.pv (pv_move rfl) rfl ?_
    refine WL.pv (pv_len slS_22 rfl) rfl ?_
    refine WL.pv (pv_minN rfl rfl) rfl ?_
    refine WL.pv (pv_assign rfl) rfl ?_
    refine WL.nil ?_
    refine QN.thenW ?_
    refine WC.seq ?_
    refine WC.region ?_
    refine WL.pv (pv_move rfl) rfl ?_
    refine WL.pv (pv_move rfl) rfl ?_
    refine WL.pv (pv_conv someT_32 Try.underlying3 rfl (cv_i_i (j : Int) (by omega))) rfl ?_
    refine WL.pv (pv_move rfl) rfl ?_
    refine WL.pv (pv_len slS_22 rfl) rfl ?_
    refine WL.pv (pv_minN rfl rfl) rfl ?_
    refine WL.pv (pv_maxN rfl rfl) rfl ?_
    refine WL.pv (pv_assign rfl) rfl ?_
    refine WL.nil ?_
    refine QN.thenW ?_
    refine WC.seq ?_
    obtain ⟨X, hX⟩ : ∃ X, X = min i m := ⟨_, rfl⟩
    obtain ⟨Y, hY⟩ : ∃ Y, Y = max X (min j m) := ⟨_, rfl⟩
    rw [← hX, ← hY]
    refine WC.draw (S := fun _ => True) (fuel := 16) (listed := #[false, false, false, false, false, false, false, false, false, false, false, false, false, false, false, false]) mixedO rfl rfl ?_
    have hS := hS.no (Fr.drew _)
    refine WH.take (listed' := #[true, false, false, false, false, false, false, false, false, false, false, false, false, false, false, false]) 0 rfl (by kernel_rfl) (by kernel_rfl) (by kernel_rfl) (fun _ _ _ h => h) rfl (fun w _ => PV.rv (pv_move rfl) w) trivial rfl ?_
    refine WH.take (listed' := #[true, true, false, false, false, false, false, false, false, false, false, false, false, false, false, false]) 1 rfl (by kernel_rfl) (by kernel_rfl) (by kernel_rfl) (fun _ _ _ h => h) rfl (fun w _ => PV.rv (pv_move rfl) w) trivial rfl ?_
    refine WH.take (listed' := #[true, true, true, false, false, false, false, false, false, false, false, false, false, false, false, false]) 2 rfl (by kernel_rfl) (by kernel_rfl) (by kernel_rfl) (fun _ _ _ h => h) rfl (fun w _ => PV.rv (pv_sliceH (b := X) slT_22 rfl rfl rfl (by omega)) w) trivial rfl ?_
    refine WH.take (listed' := #[true, true, true, true, false, false, false, false, false, false, false, false, false, false, false, false]) 3 rfl (by kernel_rfl) (by kernel_rfl) (by kernel_rfl) (fun _ _ _ h => h) rfl (fun w _ => PV.rv (pv_move rfl) w) trivial rfl ?_
    refine WH.take (listed' := #[true, true, true, true, true, false, false, false, false, false, false, false, false, false, false, false]) 4 rfl (by kernel_rfl) (by kernel_rfl) (by kernel_rfl) (fun _ _ _ h => h) rfl (fun w _ => PV.rv (pv_move rfl) w) trivial rfl ?_
    refine WH.take (listed' := #[true, true, true, true, true, true, false, false, false, false, false, false, false, false, false, false]) 5 rfl (by kernel_rfl) (by kernel_rfl) (by kernel_rfl) (fun _ _ _ h => h) rfl (fun w _ => PV.rv (pv_move rfl) w) trivial rfl ?_
    refine WH.take (listed' := #[true, true, true, true, true, true, true, false, false, false, false, false, false, false, false, false]) 6 rfl (by kernel_rfl) (by kernel_rfl) (by kernel_rfl) (fun _ _ _ h => h) rfl (fun w _ => PV.rv (pv_sliceLH (a := X) (b := Y) slT_22 rfl rfl rfl rfl rfl (by omega) (by omega)) w) trivial rfl ?_
    refine WH.take (listed' := #[true, true, true, true, true, true, true, true, false, false, false, false, false, false, false, false]) 7 rfl (by kernel_rfl) (by kernel_rfl) (by kernel_rfl) (fun _ _ _ h => h) rfl (fun w _ => PV.rv (pv_move rfl) w) trivial rfl ?_
    refine WH.take (listed' := #[true, true, true, true, true, true, true, true, true, false, false, false, false, false, false, false]) 8 rfl (by kernel_rfl) (by kernel_rfl) (by kernel_rfl) (fun _ _ _ h => h) rfl (fun w _ => PV.rv (pv_move rfl) w) trivial rfl ?_
    refine WH.take (listed' := #[true, true, true, true, true, true, true, true, true, true, false, false, false, false, false, false]) 9 rfl (by kernel_rfl) (by kernel_rfl) (by kernel_rfl) (fun _ _ _ h => h) rfl (fun w _ => PV.rv (pv_sliceLH (a := Y) (b := m) slT_22 rfl rfl rfl rfl rfl (by omega) (by omega)) w) trivial rfl ?_
    refine WH.take (listed' := #[true, true, true, true, true, true, true, true, true, true, false, false, true, false, false, false]) 12 rfl (by kernel_rfl) (by kernel_rfl) (by kernel_rfl) (fun _ _ _ h => h) rfl (fun w _ => PV.rv (pv_move rfl) w) trivial rfl ?_
    refine WH.one (listed' := #[true, true, true, true, true, true, true, true, true, true, true, false, true, false, false, false]) 10 rfl (by kernel_rfl) rfl ?_
    refine WL.buildV (parts := [(0, .tmp 28), (1, .tmp 32), (2, .tmp 35)]) (vs := [.slice A X c, .slice (if c = X then A else A.map (·.add (X * 1))) (Y - X) (c - X), .slice (if c = Y then A else A.map (·.add (Y * 1))) (m - Y) (c - Y)]) hS slT_29 zeroT_22 (by simp) rfl rfl rfl (by simp [Value.cells]) rfl rfl ?_
    intro b36 w hb36 hS
    refine WL.nil ?_
    refine QN.held trivial ?_
    refine WH.one (listed' := #[true, true, true, true, true, true, true, true, true, true, true, true, true, false, false, false]) 11 rfl (by kernel_rfl) rfl ?_
    refine WL.call (args := [.tmp 36]) cf_23 rfl rfl (sums_c _ 3 3 [bl.take X, (bl.drop X).take (Y - X), bl.drop Y] _ ⟨_, (hS.bk (k := 0) rfl).rs 0 3 3 1 (by omega) (by simp [maxLen]) (by simp [Value.cells]), by simp [Value.cells], fun q hq hq2 => by
  have h1 := (hb.no hS.fr).cutH8 (b := X) (by omega)
  have h2 := (hb.no hS.fr).cut8 (a := X) (b := Y) (by omega) (by omega)
  have h3 := (hb.no hS.fr).cut8 (a := Y) (b := m) (by omega) (Nat.le_refl _)
  rw [List.take_of_length_le (by rw [List.length_drop]; omega)] at h3
  rcases q with _ | _ | _ | q
  · exact h1
  · exact h2
  · exact h3
  · exact absurd hq2 (by simp)⟩) ?_
    rintro _ w ⟨rfl, hF⟩
    refine ⟨_, rfl, ?_⟩
    replace hS := hS.no hF
    rw [show [bl.take X, (bl.drop X).take (Y - X), bl.drop Y].flatten = bl from by
      simp only [List.flatten_cons, List.flatten_nil, List.append_nil]
      rw [show bl.drop Y = (bl.drop X).drop (Y - X) from by rw [List.drop_drop]; congr 1; omega, List.take_append_drop, List.take_append_drop]]
    refine WL.nil ?_
    refine QN.held trivial ?_
    refine WH.one (listed' := #[true, true, true, true, true, true, true, true, true, true, true, true, true, true, false, false]) 13 rfl (by kernel_rfl) rfl ?_
    refine WL.call (args := [.tmp 38]) cf_20 rfl rfl (sum_c _ _ _ bl _ (hb.no hS.fr)) ?_
    rintro _ w ⟨rfl, hF⟩
    refine ⟨_, rfl, ?_⟩
    replace hS := hS.no hF
    refine WL.nil ?_
    refine QN.held trivial ?_
    refine WH.take (listed' := #[true, true, true, true, true, true, true, true, true, true, true, true, true, true, true, false]) 14 rfl (by kernel_rfl) (by kernel_rfl) (by kernel_rfl) (fun _ _ _ h => h) rfl (fun w _ => PV.rv (pv_eqlA8 Try.underlying25 Try.underlying5 cellsT_5 eqgT_25 rfl rfl (shaV_len _) (shaV_len _)) w) trivial rfl ?_
    refine WH.take (listed' := #[true, true, true, true, true, true, true, true, true, true, true, true, true, true, true, true]) 15 rfl (by kernel_rfl) (by kernel_rfl) (by kernel_rfl) (fun _ _ _ h => h) rfl (fun w _ => PV.rv (pv_assign rfl) w) trivial rfl ?_
    refine WH.done (by kernel_rfl) ?_
    refine QN.thenW ?_
    refine WC.ret ?_
    refine QN.ret1 rfl rfl ?_
    exact ⟨by simp, hS.fr⟩

end Go.Proofs.Ytjcebkhhgdgohaa
