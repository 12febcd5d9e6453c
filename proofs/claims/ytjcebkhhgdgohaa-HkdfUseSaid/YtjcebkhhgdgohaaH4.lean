/- What a few functions of the program compute, part H4. -/
import Derived.Test.YtjcebkhhgdgohaaH3
namespace Go.Proofs.Ytjcebkhhgdgohaa
open Go Go.RowKit Go.Eng
theorem cf_25 : callable Try.prog 25 = true := by kernel_rfl
theorem cf_27 : callable Try.prog 27 = true := by kernel_rfl
set_option maxRecDepth 100000 in
theorem hmacTag_c (A B : Option Addr) (m c m2 c2 : Nat) (key text : List UInt8) (w0 : World) (hk : Rs w0 (.slice A m c) 1 (bs8 key)) (ht : Rs w0 (.slice B m2 c2) 1 (bs8 text)) : Calls Try.prog 7 #[.slice A m c, .slice B m2 c2] w0 fun e w => e = .returned (.bool true) ∧ Fr No w0 w := by
  have hln := hk.len
  rw [bs8_len] at hln
  have hln2 := ht.len
  rw [bs8_len] at hln2
  have hmx : m ≤ 9223372036854775807 := by have := hln; simp only [maxLen] at this; omega
  have hmx2 : m2 ≤ 9223372036854775807 := by have := hln2; simp only [maxLen] at this; omega
  refine calls_of_WC (args := [.slice A m c, .slice B m2 c2]) Try.func7 rfl Try.ntmps7 rfl ?_
  show WC _ _ _ _ [(0, .slice A m c), (1, .slice B m2 c2)] _
  have hS := ST.start w0 No
  refine WC.seq ?_
  refine WC.region ?_
  refine WL.pv (pv_assign rfl) rfl ?_
  refine WL.nil ?_
  refine QN.thenW ?_
  refine WC.seq ?_
  refine WC.seq ?_
  refine WC.region ?_
  refine WL.call (args := []) cf_25 rfl rfl (wakesH_c _) ?_
  rintro _ w ⟨rfl, hF⟩
  refine ⟨_, rfl, ?_⟩
  replace hS := hS.no hF
  refine WL.pv (pv_not rfl) rfl ?_
  refine WL.nil ?_
  refine QN.thenW ?_
  refine WC.condF rfl rfl ?_
  refine WC.skip ?_
  refine QN.thenW ?_
  refine WC.seq ?_
  refine WC.seq ?_
  by_cases h1000 : m ≤ 1000
  · skip
    refine WC.region ?_
    refine WL.pv (pv_move rfl) rfl ?_
    refine WL.pv (pv_len slS_22 rfl) rfl ?_
    refine WL.pv (pv_gtr rfl rfl) rfl ?_
    refine WL.pv (pv_move rfl) rfl ?_
    refine WL.guardT rfl rfl rfl (lkF rfl (by omega)) ?_
    refine WL.pv (pv_move rfl) rfl ?_
    refine WL.guardT rfl rfl rfl (lkF rfl (by omega)) ?_
    refine WL.pv (pv_len slS_22 rfl) rfl ?_
    refine WL.guardT rfl rfl rfl (lkF rfl (by omega)) ?_
    refine WL.pv (pv_gtr rfl rfl) rfl ?_
    refine WL.pv (pv_pick0 (lkF rfl (by omega)) rfl) rfl ?_
    refine WL.nil ?_
    refine QN.thenW ?_
    refine WC.condD rfl (fun hc16 => ?_) (fun hc16 => ?_)
    · skip
      refine WC.seq ?_
      refine WC.region ?_
      refine WL.pv (pv_assign rfl) rfl ?_
      refine WL.nil ?_
      refine QN.thenW ?_
      refine WC.ret ?_
      refine QN.thenR ?_
      refine QN.ret1 rfl rfl ?_
      exact ⟨by simp, hS.fr⟩
    · skip
      refine WC.skip ?_
      refine QN.thenW ?_
      refine WC.seq ?_
      refine WC.region ?_
      refine WL.build0 hS slT_22 rfl ?_
      intro r5 w hr5 hS
      refine WL.pv (pv_move rfl) rfl ?_
      refine WL.append (k := 0) (N := 65536) hS slT_22 zlenT_5 (by decide) rfl rfl rfl (hk.no hS.fr) bs8_one (by simp [bs8_len]; omega) (by omega) (by simp [maxLen]) rfl ?_
      intro v1 w hFr19 hS
      try simp only [List.set] at hS
      rw [List.nil_append] at hS
      obtain ⟨A1, m1, c1, rfl, _, _, _⟩ := (hS.rw_ (k := 0) rfl).anyForm
      refine WL.build0 hS slT_22 rfl ?_
      intro r6 w hr6 hS
      refine WL.pv (pv_move rfl) rfl ?_
      refine WL.append (k := 0) (N := 65536) hS slT_22 zlenT_5 (by decide) rfl rfl rfl (ht.no hS.fr) bs8_one (by simp [bs8_len]; omega) (by omega) (by simp [maxLen]) rfl ?_
      intro v2 w hFr22 hS
      try simp only [List.set] at hS
      rw [List.nil_append] at hS
      obtain ⟨A3, m3, c3, rfl, _, _, _⟩ := (hS.rw_ (k := 0) rfl).anyForm
      refine WL.pv (pv_assign rfl) rfl ?_
      refine WL.pv (pv_assign rfl) rfl ?_
      refine WL.nil ?_
      refine QN.thenW ?_
      refine WC.seq ?_
      refine WC.region ?_
      refine WL.pv (pv_move rfl) rfl ?_
      refine WL.pv (pv_move rfl) rfl ?_
      refine WL.call (args := [.tmp 23, .tmp 24]) cf_26 rfl rfl (tag_c _ _ _ _ _ _ key text _ (hS.rw_ (k := 1) rfl).rs (hS.rw_ (k := 0) rfl).rs) ?_
      rintro _ w ⟨rfl, hF⟩
      refine ⟨_, rfl, ?_⟩
      replace hS := hS.no hF
      refine WL.pv (pv_move rfl) rfl ?_
      refine WL.pv (pv_move rfl) rfl ?_
      refine WL.call (args := [.tmp 26, .tmp 27]) cf_27 rfl rfl (refTag_c _ _ _ _ _ _ key text _ (hk.no hS.fr) (ht.no hS.fr) (by omega) (by omega)) ?_
      rintro _ w ⟨rfl, hF⟩
      refine ⟨_, rfl, ?_⟩
      replace hS := hS.no hF
      refine WL.pv (pv_eqlA8 Try.underlying25 Try.underlying5 cellsT_5 eqgT_25 rfl rfl (hmacV_len _ _) (hmacV_len _ _)) rfl ?_
      refine WL.pv (pv_move rfl) rfl ?_
      refine WL.guardT rfl rfl rfl (lkT rfl (by rfl)) ?_
      refine WL.pv (pv_move rfl) rfl ?_
      refine WL.guardT rfl rfl rfl (lkT rfl (by rfl)) ?_
      refine WL.pv (pv_move rfl) rfl ?_
      refine WL.guardT rfl rfl rfl (lkT rfl (by rfl)) ?_
      refine WL.call (args := [.tmp 31, .tmp 32]) cf_22 rfl rfl (same_c _ _ _ _ _ _ key key _ (hS.rw_ (k := 1) rfl).rs (hk.no hS.fr)) ?_
      rintro _ w ⟨rfl, hF⟩
      refine ⟨_, rfl, ?_⟩
      replace hS := hS.no hF
      refine WL.pv (pv_pick1 (lkT rfl (by rfl)) rfl) rfl ?_
      refine WL.pv (pv_move rfl) rfl ?_
      refine WL.guardT rfl rfl rfl (lkT rfl (by rfl)) ?_
      refine WL.pv (pv_move rfl) rfl ?_
      refine WL.guardT rfl rfl rfl (lkT rfl (by rfl)) ?_
      refine WL.pv (pv_move rfl) rfl ?_
      refine WL.guardT rfl rfl rfl (lkT rfl (by rfl)) ?_
      refine WL.call (args := [.tmp 36, .tmp 37]) cf_22 rfl rfl (same_c _ _ _ _ _ _ text text _ (hS.rw_ (k := 0) rfl).rs (ht.no hS.fr)) ?_
      rintro _ w ⟨rfl, hF⟩
      refine ⟨_, rfl, ?_⟩
      replace hS := hS.no hF
      refine WL.pv (pv_pick1 (lkT rfl (by rfl)) rfl) rfl ?_
      refine WL.pv (pv_assign rfl) rfl ?_
      refine WL.nil ?_
      refine QN.thenW ?_
      refine WC.ret ?_
      refine QN.ret1 rfl rfl ?_
      exact ⟨by simp, hS.fr⟩
  · skip
    refine WC.region ?_
    refine WL.pv (pv_move rfl) rfl ?_
    refine WL.pv (pv_len slS_22 rfl) rfl ?_
    refine WL.pv (pv_gtr rfl rfl) rfl ?_
    refine WL.pv (pv_move rfl) rfl ?_
    refine WL.guardF rfl rfl rfl (lkT rfl (by omega)) rfl rfl ?_
    refine WL.guardF rfl rfl rfl (lkT rfl (by omega)) rfl rfl ?_
    refine WL.guardF rfl rfl rfl (lkT rfl (by omega)) rfl rfl ?_
    refine WL.pv (pv_pick1 (lkT rfl (by omega)) rfl) rfl ?_
    refine WL.nil ?_
    refine QN.thenW ?_
    refine WC.condT rfl rfl ?_
    refine WC.seq ?_
    refine WC.region ?_
    refine WL.pv (pv_assign rfl) rfl ?_
    refine WL.nil ?_
    refine QN.thenW ?_
    refine WC.ret ?_
    refine QN.thenR ?_
    refine QN.ret1 rfl rfl ?_
    exact ⟨by simp, hS.fr⟩

end Go.Proofs.Ytjcebkhhgdgohaa
