/- What a few functions of the program compute, part L3. -/
import Derived.Test.YtjcebkhhgdgohaaL2
import Derived.Test.YtjcebkhhgdgohaaEngR
namespace Go.Proofs.Ytjcebkhhgdgohaa
open Go Go.RowKit Go.Eng
theorem zlenT_22 : (zeroT Try.prog 22).map List.length = some 1 := by kernel_rfl
set_option maxRecDepth 100000 in
theorem shaEmpty_c (A : Option Addr) (m c : Nat) (q : UInt8) (ls : List (List UInt8)) (w0 : World) (hl : RsL w0 (.slice A m c) ls) : Calls Try.prog 6 #[.slice A m c, b8 q] w0 fun e w => e = .returned (.bool true) ∧ Fr No w0 w := by
  obtain ⟨vs, hvs, hvl, hall⟩ := hl
  have hln := hvs.len
  have hmx : m ≤ 9223372036854775807 := by have := hvs.len; simp only [maxLen] at this; omega
  refine calls_of_WC (args := [.slice A m c, b8 q]) Try.func6 rfl Try.ntmps6 rfl ?_
  show WC _ _ _ _ [(0, .slice A m c), (1, b8 q)] _
  have hS := ST.start w0 No
  refine WC.seq ?_
  refine WC.region ?_
  refine WL.pv (pv_assign rfl) rfl ?_
  refine WL.nil ?_
  refine QN.thenW ?_
  refine WC.seq ?_
  refine WC.seq ?_
  refine WC.region ?_
  refine WL.call (args := []) cf_19 rfl rfl (wakes_c _) ?_
  rintro _ w ⟨rfl, hF⟩
  refine ⟨_, rfl, ?_⟩
  replace hS := hS.no hF
  refine WL.pv (pv_not rfl) rfl ?_
  refine WL.nil ?_
  refine QN.thenW ?_
  refine WC.condF rfl rfl ?_
  refine WC.skip ?_
  refine QN.thenW ?_
  refine WC.seq ?_
  refine WC.seq ?_
  refine WC.region ?_
  refine WL.pv (pv_move rfl) rfl ?_
  refine WL.pv (pv_len slS_29 rfl) rfl ?_
  refine WL.pv (pv_gtr rfl rfl) rfl ?_
  refine WL.nil ?_
  refine QN.thenW ?_
  refine WC.condD rfl (fun hc12 => ?_) (fun hc12 => ?_)
  · skip
    refine WC.seq ?_
    refine WC.region ?_
    refine WL.pv (pv_assign rfl) rfl ?_
    refine WL.nil ?_
    refine QN.thenW ?_
    refine WC.ret ?_
    refine QN.thenR ?_
    refine QN.ret1 rfl rfl ?_
    exact ⟨by simp, hS.fr⟩
  · skip
    have h30 : m ≤ 30 := by omega
    refine WC.skip ?_
    refine QN.thenW ?_
    refine WC.seq ?_
    refine WC.seq ?_
    refine WC.region ?_
    refine WL.pv (pv_move rfl) rfl ?_
    refine WL.pv (pv_len slS_29 rfl) rfl ?_
    refine WL.pv (pv_move rfl) rfl ?_
    refine WL.nil ?_
    refine QN.thenW ?_
    refine WC.block ?_
    refine WC.loop (α := Nat) (fun k => [(0, .slice A m c), (1, b8 q), (14, .int .i64 (m : Int)), (15, .int .i64 (k : Int))]) (fun k w => k ≤ m ∧ (∀ j (hj : j < ls.length), j < k → (ls[j]).length ≤ 300) ∧ ST w0 No w []) (fun k => m - k) (0) (Sub.cons rfl (Sub.cons rfl (Sub.cons rfl (Sub.cons rfl Sub.nil)))) ⟨by omega, fun j hj h => by omega, hS⟩ ?_
    rintro k w N hN hR
    obtain ⟨hk, hall3, hS⟩ := hR
    refine WC.seq ?_
    refine WC.region ?_
    refine WL.pv (pv_lss rfl rfl) rfl ?_
    refine WL.nil ?_
    refine QN.thenW ?_
    refine WC.seq ?_
    refine WC.condD rfl (fun hc16 => ?_) (fun hc16 => ?_)
    · skip
      have hkm : k < m := by omega
      obtain ⟨bb, o, rfl, _, hc1, hc2, hcell⟩ := hvs.at_ (by omega)
      have hvk := hall k (by omega) (by omega)
      obtain ⟨A', n', c', hv', _, _, hl', _⟩ := id hvk
      rw [bs8_len, Nat.mul_one] at hl' 
      refine WC.skip ?_
      refine QN.thenW ?_
      refine WC.seq ?_
      refine WC.block ?_
      refine WC.seq ?_
      refine WC.region ?_
      refine WL.pv (pv_move rfl) rfl ?_
      refine WL.pv (pv_assign rfl) rfl ?_
      refine WL.nil ?_
      refine QN.thenW ?_
      refine WC.seq ?_
      refine WC.region ?_
      refine WL.pv (pv_move rfl) rfl ?_
      refine WL.pv (pv_move rfl) rfl ?_
      refine WL.pv (pv_indexAddrS1 slT_29 rfl rfl rfl (by omega)) rfl ?_
      refine WL.rv (rv_load oneT_22 rfl (hS.fr.cellS (hcell k _ (by rw [List.getElem?_eq_getElem (by omega), hv'])) (fun h => h))) rfl ?_
      refine WL.pv (pv_len slS_22 rfl) rfl ?_
      refine WL.pv (pv_gtr rfl rfl) rfl ?_
      refine WL.nil ?_
      refine QN.thenW ?_
      refine WC.condD rfl (fun hc23 => ?_) (fun hc23 => ?_)
      · skip
        refine WC.seq ?_
        refine WC.region ?_
        refine WL.pv (pv_assign rfl) rfl ?_
        refine WL.nil ?_
        refine QN.thenW ?_
        refine WC.ret ?_
        refine QN.blockR ?_
        refine QN.thenR ?_
        refine QN.thenR ?_
        refine QN.blockR ?_
        refine QN.thenR ?_
        refine QN.ret1 rfl rfl ?_
        exact ⟨by simp, hS.fr⟩
      · skip
        refine WC.skip ?_
        refine QN.blockN ?_
        refine QN.thenW ?_
        refine WC.region ?_
        refine WL.pv (pv_add rfl rfl (by omega)) rfl ?_
        refine WL.pv (pv_move rfl) rfl ?_
        refine WL.nil ?_
        refine QN.roundE ?_
        refine ⟨(k + 1), (Sub.cons rfl (Sub.cons rfl (Sub.cons rfl (Sub.cons rfl Sub.nil)))), ⟨by omega, fun j hj h => by
  by_cases hjk : j = k
  · subst hjk; omega
  · exact hall3 j hj (by omega), hS⟩, ?_⟩
        first | omega | (dsimp only; omega)
    · skip
      obtain rfl : k = m := by omega
      obtain ⟨K, hKd⟩ : ∃ K, K = q.toNat % (k + 1) := ⟨_, rfl⟩
      have hKk : K ≤ k := by have := Nat.mod_lt q.toNat (show 0 < k + 1 by omega); omega
      have hone := RsL.one hvl hall
      refine WC.exit ?_
      refine QN.thenX ?_
      refine QN.thenX ?_
      refine QN.blockX ?_
      refine QN.thenW ?_
      refine WC.seq ?_
      refine WC.region ?_
      refine WL.pv (pv_move rfl) rfl ?_
      refine WL.pv (pv_conv someT_5 Try.underlying3 rfl (cv_8_i _)) rfl ?_
      refine WL.pv (pv_move rfl) rfl ?_
      refine WL.pv (pv_len slS_29 rfl) rfl ?_
      refine WL.pv (pv_add (a := (k : Int)) (b := 1) rfl rfl (by omega)) rfl ?_
      refine WL.pv (pv_remN (a := q.toNat) (b := k + 1) rfl rfl (by omega)) rfl ?_
      refine WL.pv (pv_assign rfl) rfl ?_
      refine WL.nil ?_
      refine QN.thenW ?_
      refine WC.cut (α := Value) (fun v => [(0, .slice A k c), (7, v)]) (fun v w => Fr No w0 w ∧ Rs w v 1 (vs.take K ++ [.slice none 0 0] ++ vs.drop K)) ?_ ?_
      · skip
        rw [← hKd]
        refine WC.draw (S := fun _ => True) (fuel := 12) (listed := #[false, false, false, false, false, false, false, false, false, false, false, false]) mixedO rfl rfl ?_
        have hS := hS.no (Fr.drew _)
        refine WH.take (listed' := #[false, true, false, false, false, false, false, false, false, false, false, false]) 1 rfl (by kernel_rfl) (by kernel_rfl) (by kernel_rfl) (fun _ _ _ h => h) rfl (fun w _ => PV.rv (pv_move rfl) w) trivial rfl ?_
        refine WH.take (listed' := #[false, true, true, false, false, false, false, false, false, false, false, false]) 2 rfl (by kernel_rfl) (by kernel_rfl) (by kernel_rfl) (fun _ _ _ h => h) rfl (fun w _ => PV.rv (pv_move rfl) w) trivial rfl ?_
        refine WH.take (listed' := #[false, true, true, true, false, false, false, false, false, false, false, false]) 3 rfl (by kernel_rfl) (by kernel_rfl) (by kernel_rfl) (fun _ _ _ h => h) rfl (fun w _ => PV.rv (pv_sliceH (b := K) slT_29 rfl rfl rfl (by omega)) w) trivial rfl ?_
        refine WH.take (listed' := #[false, true, true, true, false, false, false, true, false, false, false, false]) 7 rfl (by kernel_rfl) (by kernel_rfl) (by kernel_rfl) (fun _ _ _ h => h) rfl (fun w _ => PV.rv (pv_move rfl) w) trivial rfl ?_
        refine WH.take (listed' := #[false, true, true, true, false, false, false, true, true, false, false, false]) 8 rfl (by kernel_rfl) (by kernel_rfl) (by kernel_rfl) (fun _ _ _ h => h) rfl (fun w _ => PV.rv (pv_move rfl) w) trivial rfl ?_
        refine WH.take (listed' := #[false, true, true, true, false, false, false, true, true, true, false, false]) 9 rfl (by kernel_rfl) (by kernel_rfl) (by kernel_rfl) (fun _ _ _ h => h) rfl (fun w _ => PV.rv (pv_sliceLH (a := K) (b := k) slT_29 rfl rfl rfl rfl rfl (by omega) (by omega)) w) trivial rfl ?_
        refine WH.two (m1 := #[true, true, true, true, false, false, false, true, true, true, false, false]) (m2 := #[false, true, true, true, false, true, false, true, true, true, false, false]) 0 5 rfl rfl (by kernel_rfl) rfl rfl ?_ ?_
        · skip
          refine WL.build0 hS slT_29 rfl ?_
          intro r31 w hr31 hS
          refine WL.nil ?_
          refine QN.held trivial ?_
          refine WH.two (m1 := #[true, true, true, true, true, false, false, true, true, true, false, false]) (m2 := #[true, true, true, true, false, true, false, true, true, true, false, false]) 4 5 rfl rfl (by kernel_rfl) rfl rfl ?_ ?_
          · skip
            refine WL.append (k := 0) (N := 65536) hS slT_29 zlenT_22 (by decide) rfl rfl rfl ((hvs.no hS.fr).cutH (b := K) (by omega)) (fun u hu => hone u (List.mem_of_mem_take hu)) (by simp; omega) (by omega) (by simp [maxLen]) rfl ?_
            intro v1 w hFr35 hS
            try simp only [List.set] at hS
            refine WL.nil ?_
            refine QN.held trivial ?_
            refine WH.one (listed' := #[true, true, true, true, true, true, false, true, true, true, false, false]) 5 rfl (by kernel_rfl) rfl ?_
            refine WL.build1 hS slT_29 zeroT_22 rfl rfl rfl rfl ?_
            intro b36 w hb36 hS
            refine WL.nil ?_
            refine QN.held trivial ?_
            refine WH.one (listed' := #[true, true, true, true, true, true, true, true, true, true, false, false]) 6 rfl (by kernel_rfl) rfl ?_
            refine WL.append (k := 1) (N := 65536) hS slT_29 zlenT_22 (by decide) rfl rfl rfl ((hS.bk (k := 0) rfl).rs 0 1 1 1 (by omega) (by simp [maxLen]) (by simp)) (by simp [Value.oneCell']) (by simp; omega) (by omega) (by simp [maxLen]) rfl ?_
            intro v2 w hFr37 hS
            try simp only [List.set] at hS
            refine WL.nil ?_
            refine QN.held trivial ?_
            refine WH.one (listed' := #[true, true, true, true, true, true, true, true, true, true, true, false]) 10 rfl (by kernel_rfl) rfl ?_
            refine WL.append (k := 1) (N := 65536) hS slT_29 zlenT_22 (by decide) rfl rfl rfl ((hvs.no hS.fr).cut (a := K) (b := k) (by omega) (by omega)) (fun u hu => hone u (List.mem_of_mem_drop (List.mem_of_mem_take hu))) (by simp; omega) (by omega) (by simp [maxLen]) rfl ?_
            intro v3 w hFr41 hS
            try simp only [List.set] at hS
            have hv3 : Rs w v3 1 (vs.take K ++ [.slice none 0 0] ++ vs.drop K) := by
              have h3 := (hS.rw_ (k := 1) rfl).rs
              simp only [Nat.mul_one, List.nil_append, List.drop_zero] at h3
              rw [List.take_of_length_le (i := k - K) (by rw [List.length_drop]; omega)] at h3
              exact h3
            refine WL.nil ?_
            refine QN.held trivial ?_
            refine WH.take (listed' := #[true, true, true, true, true, true, true, true, true, true, true, true]) 11 rfl (by kernel_rfl) (by kernel_rfl) (by kernel_rfl) (fun _ _ _ h => h) rfl (fun w _ => PV.rv (pv_assign rfl) w) trivial rfl ?_
            refine WH.done (by kernel_rfl) ?_
            refine QN.midE ?_
            exact ⟨(v3), (Sub.cons rfl (Sub.cons rfl Sub.nil)), ⟨hS.fr, hv3⟩⟩
          · skip
            refine WL.build1 hS slT_29 zeroT_22 rfl rfl rfl rfl ?_
            intro b36 w hb36 hS
            refine WL.nil ?_
            refine QN.held trivial ?_
            refine WH.one (listed' := #[true, true, true, true, true, true, false, true, true, true, false, false]) 4 rfl (by kernel_rfl) rfl ?_
            refine WL.append (k := 1) (N := 65536) hS slT_29 zlenT_22 (by decide) rfl rfl rfl ((hvs.no hS.fr).cutH (b := K) (by omega)) (fun u hu => hone u (List.mem_of_mem_take hu)) (by simp; omega) (by omega) (by simp [maxLen]) rfl ?_
            intro v1 w hFr35 hS
            try simp only [List.set] at hS
            refine WL.nil ?_
            refine QN.held trivial ?_
            refine WH.one (listed' := #[true, true, true, true, true, true, true, true, true, true, false, false]) 6 rfl (by kernel_rfl) rfl ?_
            refine WL.append (k := 1) (N := 65536) hS slT_29 zlenT_22 (by decide) rfl rfl rfl ((hS.bk (k := 0) rfl).rs 0 1 1 1 (by omega) (by simp [maxLen]) (by simp)) (by simp [Value.oneCell']) (by simp; omega) (by omega) (by simp [maxLen]) rfl ?_
            intro v2 w hFr37 hS
            try simp only [List.set] at hS
            refine WL.nil ?_
            refine QN.held trivial ?_
            refine WH.one (listed' := #[true, true, true, true, true, true, true, true, true, true, true, false]) 10 rfl (by kernel_rfl) rfl ?_
            refine WL.append (k := 1) (N := 65536) hS slT_29 zlenT_22 (by decide) rfl rfl rfl ((hvs.no hS.fr).cut (a := K) (b := k) (by omega) (by omega)) (fun u hu => hone u (List.mem_of_mem_drop (List.mem_of_mem_take hu))) (by simp; omega) (by omega) (by simp [maxLen]) rfl ?_
            intro v3 w hFr41 hS
            try simp only [List.set] at hS
            have hv3 : Rs w v3 1 (vs.take K ++ [.slice none 0 0] ++ vs.drop K) := by
              have h3 := (hS.rw_ (k := 1) rfl).rs
              simp only [Nat.mul_one, List.nil_append, List.drop_zero] at h3
              rw [List.take_of_length_le (i := k - K) (by rw [List.length_drop]; omega)] at h3
              exact h3
            refine WL.nil ?_
            refine QN.held trivial ?_
            refine WH.take (listed' := #[true, true, true, true, true, true, true, true, true, true, true, true]) 11 rfl (by kernel_rfl) (by kernel_rfl) (by kernel_rfl) (fun _ _ _ h => h) rfl (fun w _ => PV.rv (pv_assign rfl) w) trivial rfl ?_
            refine WH.done (by kernel_rfl) ?_
            refine QN.midE ?_
            exact ⟨(v3), (Sub.cons rfl (Sub.cons rfl Sub.nil)), ⟨hS.fr, hv3⟩⟩
        · skip
          refine WL.build1 hS slT_29 zeroT_22 rfl rfl rfl rfl ?_
          intro b36 w hb36 hS
          refine WL.nil ?_
          refine QN.held trivial ?_
          refine WH.one (listed' := #[true, true, true, true, false, true, false, true, true, true, false, false]) 0 rfl (by kernel_rfl) rfl ?_
          refine WL.build0 hS slT_29 rfl ?_
          intro r31 w hr31 hS
          refine WL.nil ?_
          refine QN.held trivial ?_
          refine WH.one (listed' := #[true, true, true, true, true, true, false, true, true, true, false, false]) 4 rfl (by kernel_rfl) rfl ?_
          refine WL.append (k := 0) (N := 65536) hS slT_29 zlenT_22 (by decide) rfl rfl rfl ((hvs.no hS.fr).cutH (b := K) (by omega)) (fun u hu => hone u (List.mem_of_mem_take hu)) (by simp; omega) (by omega) (by simp [maxLen]) rfl ?_
          intro v1 w hFr35 hS
          try simp only [List.set] at hS
          refine WL.nil ?_
          refine QN.held trivial ?_
          refine WH.one (listed' := #[true, true, true, true, true, true, true, true, true, true, false, false]) 6 rfl (by kernel_rfl) rfl ?_
          refine WL.append (k := 0) (N := 65536) hS slT_29 zlenT_22 (by decide) rfl rfl rfl ((hS.bk (k := 1) rfl).rs 0 1 1 1 (by omega) (by simp [maxLen]) (by simp)) (by simp [Value.oneCell']) (by simp; omega) (by omega) (by simp [maxLen]) rfl ?_
          intro v2 w hFr37 hS
          try simp only [List.set] at hS
          refine WL.nil ?_
          refine QN.held trivial ?_
          refine WH.one (listed' := #[true, true, true, true, true, true, true, true, true, true, true, false]) 10 rfl (by kernel_rfl) rfl ?_
          refine WL.append (k := 0) (N := 65536) hS slT_29 zlenT_22 (by decide) rfl rfl rfl ((hvs.no hS.fr).cut (a := K) (b := k) (by omega) (by omega)) (fun u hu => hone u (List.mem_of_mem_drop (List.mem_of_mem_take hu))) (by simp; omega) (by omega) (by simp [maxLen]) rfl ?_
          intro v3 w hFr41 hS
          try simp only [List.set] at hS
          have hv3 : Rs w v3 1 (vs.take K ++ [.slice none 0 0] ++ vs.drop K) := by
            have h3 := (hS.rw_ (k := 0) rfl).rs
            simp only [Nat.mul_one, List.nil_append, List.drop_zero] at h3
            rw [List.take_of_length_le (i := k - K) (by rw [List.length_drop]; omega)] at h3
            exact h3
          refine WL.nil ?_
          refine QN.held trivial ?_
          refine WH.take (listed' := #[true, true, true, true, true, true, true, true, true, true, true, true]) 11 rfl (by kernel_rfl) (by kernel_rfl) (by kernel_rfl) (fun _ _ _ h => h) rfl (fun w _ => PV.rv (pv_assign rfl) w) trivial rfl ?_
          refine WH.done (by kernel_rfl) ?_
          refine QN.midE ?_
          exact ⟨(v3), (Sub.cons rfl (Sub.cons rfl Sub.nil)), ⟨hS.fr, hv3⟩⟩
      · rintro v w hR
        obtain ⟨hF0, hv⟩ := hR
        have hS : ST w0 No w [] := ⟨hF0, by simp, by simp, .nil⟩
        obtain ⟨A7, m7, c7, rfl, _, _, _, _⟩ := id hv
        have hL : RsL w (.slice A7 m7 c7) (ls.take K ++ [[]] ++ ls.drop K) := ⟨_, hv, by simp; omega, ins_rel (fun u l => Rs w u 1 (bs8 l)) vs ls K _ _ hvl (by omega) (fun i hi hj => (hall i hi hj).no hF0) ⟨none, 0, 0, rfl, Nat.le_refl _, by simp [maxLen], by simp [bs8], .inl rfl⟩⟩
        refine WC.seq ?_
        refine WC.region ?_
        refine WL.pv (pv_move rfl) rfl ?_
        refine WL.call (args := [.tmp 42]) cf_23 rfl rfl (sums_c _ _ _ _ _ hL) ?_
        rintro _ w ⟨rfl, hF⟩
        refine ⟨_, rfl, ?_⟩
        replace hS := hS.no hF
        have e9 : (ls.take K ++ [([] : List UInt8)] ++ ls.drop K).flatten = ls.flatten := by
          rw [List.flatten_append, List.flatten_append]
          simp only [List.flatten_cons, List.flatten_nil, List.append_nil]
          rw [← List.flatten_append, List.take_append_drop]
        rw [e9]
        refine WL.pv (pv_move rfl) rfl ?_
        refine WL.call (args := [.tmp 44]) cf_23 rfl rfl (sums_c _ _ _ ls _ (RsL.fr ⟨vs, hvs, hvl, hall⟩ hS.fr (fun _ _ h => h))) ?_
        rintro _ w ⟨rfl, hF⟩
        refine ⟨_, rfl, ?_⟩
        replace hS := hS.no hF
        refine WL.pv (pv_eqlA8 Try.underlying25 Try.underlying5 cellsT_5 eqgT_25 rfl rfl (shaV_len _) (shaV_len _)) rfl ?_
        refine WL.pv (pv_move rfl) rfl ?_
        refine WL.guardT rfl rfl rfl (lkT rfl (by rfl)) ?_
        refine WL.call (args := [.const (.slice none 0 0)]) cf_23 rfl rfl (sums_c none 0 0 [] _ ⟨[], ⟨none, 0, 0, rfl, Nat.le_refl _, by simp [maxLen], by simp, .inl rfl⟩, rfl, fun i hi => by simp at hi⟩) ?_
        rintro _ w ⟨rfl, hF⟩
        refine ⟨_, rfl, ?_⟩
        replace hS := hS.no hF
        refine WL.guardT rfl rfl rfl (lkT rfl (by rfl)) ?_
        refine WL.call (args := [.const (.slice none 0 0)]) cf_20 rfl rfl (sum_c none 0 0 [] _ ⟨none, 0, 0, rfl, Nat.le_refl _, by simp [maxLen], by simp [bs8], .inl rfl⟩) ?_
        rintro _ w ⟨rfl, hF⟩
        refine ⟨_, rfl, ?_⟩
        replace hS := hS.no hF
        refine WL.guardT rfl rfl rfl (lkT rfl (by rfl)) ?_
        refine WL.pv (pv_eqlA8 Try.underlying25 Try.underlying5 cellsT_5 eqgT_25 rfl rfl (shaV_len _) (shaV_len _)) rfl ?_
        refine WL.pv (pv_pick1 (lkT rfl (by rfl)) rfl) rfl ?_
        refine WL.pv (pv_assign rfl) rfl ?_
        refine WL.nil ?_
        refine QN.thenW ?_
        refine WC.ret ?_
        refine QN.ret1 rfl rfl ?_
        exact ⟨by simp, hS.fr⟩

end Go.Proofs.Ytjcebkhhgdgohaa
