/- What a few functions of the program compute, part H7. -/
import Derived.Test.YtjcebkhhgdgohaaH6
namespace Go.Proofs.Ytjcebkhhgdgohaa
open Go Go.RowKit Go.Eng
theorem cf_34 : callable Try.prog 34 = true := by kernel_rfl
theorem cf_35 : callable Try.prog 35 = true := by kernel_rfl
set_option maxRecDepth 100000 in
theorem hmacTags_c (A B : Option Addr) (m c m2 c2 : Nat) (key : List UInt8) (ls : List (List UInt8)) (w0 : World) (hk : Rs w0 (.slice A m c) 1 (bs8 key)) (hl : RsL w0 (.slice B m2 c2) ls) : Calls Try.prog 12 #[.slice A m c, .slice B m2 c2] w0 fun e w => e = .returned (.bool true) ∧ Fr No w0 w := by
  have hlk := hk.len
  rw [bs8_len] at hlk
  obtain ⟨vs, hvs, hvl, hall⟩ := hl
  have hln := hvs.len
  have hmx : m ≤ 9223372036854775807 := by have := hlk; simp only [maxLen] at this; omega
  have hmx2 : m2 ≤ 9223372036854775807 := by have := hvs.len; simp only [maxLen] at this; omega
  refine calls_of_WC (args := [.slice A m c, .slice B m2 c2]) Try.func12 rfl Try.ntmps12 rfl ?_
  show WC _ _ _ _ [(0, .slice A m c), (1, .slice B m2 c2)] _
  have hS := ST.start w0 No
  refine WC.seq ?_
  refine WC.region ?_
  refine WL.pv (pv_assign rfl) rfl ?_
  refine WL.nil ?_
  refine QN.thenW ?_
  refine WC.seq ?_
  refine WC.seq ?_
  refine WC.region ?_
  refine WL.call (args := []) cf_25 rfl rfl (wakesH_c _) ?_
  rintro _ w ⟨rfl, hF⟩
  refine ⟨_, rfl, ?_⟩
  replace hS := hS.no hF
  refine WL.pv (pv_not rfl) rfl ?_
  refine WL.nil ?_
  refine QN.thenW ?_
  refine WC.condF rfl rfl ?_
  refine WC.skip ?_
  refine QN.thenW ?_
  refine WC.seq ?_
  refine WC.seq ?_
  by_cases h300 : m ≤ 300
  · skip
    refine WC.region ?_
    refine WL.pv (pv_move rfl) rfl ?_
    refine WL.pv (pv_len slS_22 rfl) rfl ?_
    refine WL.pv (pv_gtr rfl rfl) rfl ?_
    refine WL.pv (pv_move rfl) rfl ?_
    refine WL.guardT rfl rfl rfl (lkF rfl (by omega)) ?_
    refine WL.pv (pv_move rfl) rfl ?_
    refine WL.guardT rfl rfl rfl (lkF rfl (by omega)) ?_
    refine WL.pv (pv_len slS_29 rfl) rfl ?_
    refine WL.guardT rfl rfl rfl (lkF rfl (by omega)) ?_
    refine WL.pv (pv_gtr rfl rfl) rfl ?_
    refine WL.pv (pv_pick0 (lkF rfl (by omega)) rfl) rfl ?_
    refine WL.nil ?_
    refine QN.thenW ?_
    refine WC.condD rfl (fun hc15 => ?_) (fun hc15 => ?_)
    · skip
      refine WC.seq ?_
      refine WC.region ?_
      refine WL.pv (pv_assign rfl) rfl ?_
      refine WL.nil ?_
      refine QN.thenW ?_
      refine WC.ret ?_
      refine QN.thenR ?_
      refine QN.ret1 rfl rfl ?_
      exact ⟨by simp, hS.fr⟩
    · skip
      have h20 : m2 ≤ 20 := by omega
      refine WC.skip ?_
      refine QN.thenW ?_
      refine WC.seq ?_
      refine WC.seq ?_
      refine WC.region ?_
      refine WL.pv (pv_move rfl) rfl ?_
      refine WL.pv (pv_len slS_29 rfl) rfl ?_
      refine WL.pv (pv_move rfl) rfl ?_
      refine WL.nil ?_
      refine QN.thenW ?_
      refine WC.block ?_
      refine WC.loop (α := Nat) (fun k => [(0, .slice A m c), (1, .slice B m2 c2), (17, .int .i64 (m2 : Int)), (18, .int .i64 (k : Int))]) (fun k w => k ≤ m2 ∧ (∀ j (hj : j < ls.length), j < k → (ls[j]).length ≤ 300) ∧ ST w0 No w []) (fun k => m2 - k) (0) (Sub.cons rfl (Sub.cons rfl (Sub.cons rfl (Sub.cons rfl Sub.nil)))) ⟨by omega, fun j hj h => by omega, hS⟩ ?_
      rintro k w N hN hR
      obtain ⟨hk0, hall3, hS⟩ := hR
      refine WC.seq ?_
      refine WC.region ?_
      refine WL.pv (pv_lss rfl rfl) rfl ?_
      refine WL.nil ?_
      refine QN.thenW ?_
      refine WC.seq ?_
      refine WC.condD rfl (fun hc19 => ?_) (fun hc19 => ?_)
      · skip
        have hkm : k < m2 := by omega
        obtain ⟨bb, o, rfl, _, hc1, hc2, hcell⟩ := hvs.at_ (by omega)
        have hvk := hall k (by omega) (by omega)
        obtain ⟨A', n', c', hv', _, _, hl', _⟩ := id hvk
        rw [bs8_len, Nat.mul_one] at hl' 
        refine WC.skip ?_
        refine QN.thenW ?_
        refine WC.seq ?_
        refine WC.block ?_
        refine WC.seq ?_
        refine WC.region ?_
        refine WL.pv (pv_move rfl) rfl ?_
        refine WL.pv (pv_assign rfl) rfl ?_
        refine WL.nil ?_
        refine QN.thenW ?_
        refine WC.seq ?_
        refine WC.region ?_
        refine WL.pv (pv_move rfl) rfl ?_
        refine WL.pv (pv_move rfl) rfl ?_
        refine WL.pv (pv_indexAddrS1 slT_29 rfl rfl rfl (by omega)) rfl ?_
        refine WL.rv (rv_load oneT_22 rfl (hS.fr.cellS (hcell k _ (by rw [List.getElem?_eq_getElem (by omega), hv'])) (fun h => h))) rfl ?_
        refine WL.pv (pv_len slS_22 rfl) rfl ?_
        refine WL.pv (pv_gtr rfl rfl) rfl ?_
        refine WL.nil ?_
        refine QN.thenW ?_
        refine WC.condD rfl (fun hc26 => ?_) (fun hc26 => ?_)
        · skip
          refine WC.seq ?_
          refine WC.region ?_
          refine WL.pv (pv_assign rfl) rfl ?_
          refine WL.nil ?_
          refine QN.thenW ?_
          refine WC.ret ?_
          refine QN.blockR ?_
          refine QN.thenR ?_
          refine QN.thenR ?_
          refine QN.blockR ?_
          refine QN.thenR ?_
          refine QN.ret1 rfl rfl ?_
          exact ⟨by simp, hS.fr⟩
        · skip
          refine WC.skip ?_
          refine QN.blockN ?_
          refine QN.thenW ?_
          refine WC.region ?_
          refine WL.pv (pv_add rfl rfl (by omega)) rfl ?_
          refine WL.pv (pv_move rfl) rfl ?_
          refine WL.nil ?_
          refine QN.roundE ?_
          refine ⟨(k + 1), (Sub.cons rfl (Sub.cons rfl (Sub.cons rfl (Sub.cons rfl Sub.nil)))), ⟨by omega, fun j hj h => by
  by_cases hjk : j = k
  · subst hjk; omega
  · exact hall3 j hj (by omega), hS⟩, ?_⟩
          first | omega | (dsimp only; omega)
      · skip
        obtain rfl : k = m2 := by omega
        refine WC.exit ?_
        refine QN.thenX ?_
        refine QN.thenX ?_
        refine QN.blockX ?_
        refine QN.thenW ?_
        refine WC.seq ?_
        refine WC.region ?_
        refine WL.pv (pv_move rfl) rfl ?_
        refine WL.pv (pv_move rfl) rfl ?_
        refine WL.call (args := [.tmp 28, .tmp 29]) cf_34 rfl rfl (tags_c _ _ _ _ _ _ key ls _ (hk.no hS.fr) (RsL.fr ⟨vs, hvs, hvl, hall⟩ hS.fr (fun _ _ h => h)) (by omega) (fun j hj => hall3 j hj (by omega))) ?_
        rintro _ w ⟨rfl, hF⟩
        refine ⟨_, rfl, ?_⟩
        replace hS := hS.no hF
        refine WL.pv (pv_move rfl) rfl ?_
        refine WL.pv (pv_move rfl) rfl ?_
        refine WL.call (args := [.tmp 31, .tmp 32]) cf_35 rfl rfl (refTags_c _ _ _ _ _ _ key ls _ (hk.no hS.fr) (RsL.fr ⟨vs, hvs, hvl, hall⟩ hS.fr (fun _ _ h => h)) (by omega) (by omega) (fun j hj => hall3 j hj (by omega))) ?_
        rintro _ w ⟨rfl, hF⟩
        refine ⟨_, rfl, ?_⟩
        replace hS := hS.no hF
        refine WL.pv (pv_eqlA8 Try.underlying25 Try.underlying5 cellsT_5 eqgT_25 rfl rfl (hmacV_len _ _) (hmacV_len _ _)) rfl ?_
        refine WL.pv (pv_assign rfl) rfl ?_
        refine WL.nil ?_
        refine QN.thenW ?_
        refine WC.ret ?_
        refine QN.ret1 rfl rfl ?_
        exact ⟨by simp, hS.fr⟩
  · skip
    refine WC.region ?_
    refine WL.pv (pv_move rfl) rfl ?_
    refine WL.pv (pv_len slS_22 rfl) rfl ?_
    refine WL.pv (pv_gtr rfl rfl) rfl ?_
    refine WL.pv (pv_move rfl) rfl ?_
    refine WL.guardF rfl rfl rfl (lkT rfl (by omega)) rfl rfl ?_
    refine WL.guardF rfl rfl rfl (lkT rfl (by omega)) rfl rfl ?_
    refine WL.guardF rfl rfl rfl (lkT rfl (by omega)) rfl rfl ?_
    refine WL.pv (pv_pick1 (lkT rfl (by omega)) rfl) rfl ?_
    refine WL.nil ?_
    refine QN.thenW ?_
    refine WC.condT rfl rfl ?_
    refine WC.seq ?_
    refine WC.region ?_
    refine WL.pv (pv_assign rfl) rfl ?_
    refine WL.nil ?_
    refine QN.thenW ?_
    refine WC.ret ?_
    refine QN.thenR ?_
    refine QN.ret1 rfl rfl ?_
    exact ⟨by simp, hS.fr⟩

end Go.Proofs.Ytjcebkhhgdgohaa
