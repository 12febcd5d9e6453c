/- The law ShaSum returns true for every text and writes nothing that was there. -/
import Derived.Test.YtjcebkhhgdgohaaP3
import Derived.Test.YtjcebkhhgdgohaaEngN
namespace Go.Proofs.Ytjcebkhhgdgohaa
open Go Go.RowKit Go.Eng
theorem cellsT_5 : Try.prog.cellsOf 5 = 1 := by kernel_rfl
theorem cf_19 : callable Try.prog 19 = true := by kernel_rfl
theorem cf_20 : callable Try.prog 20 = true := by kernel_rfl
theorem cf_22 : callable Try.prog 22 = true := by kernel_rfl
theorem eqgT_25 : Try.prog.eqGuardType Try.prog.depth 25 = false := by kernel_rfl

theorem abc_ref : (refV [97, 98, 99]).take 4 = [186, 120, 22, 191] := by decide +kernel
theorem abc_sha : ∃ tl, shaV [97, 98, 99] = 186 :: 120 :: 22 :: 191 :: tl := by
  rw [sha_eq]
  have h := abc_ref
  have e := List.take_append_drop 4 (refV [97, 98, 99])
  rw [h] at e
  exact ⟨_, e.symm⟩

set_option maxRecDepth 100000 in
theorem wakes_c (w0 : World) : Calls Try.prog 19 #[] w0 fun e w => e = .returned (.bool true) ∧ Fr No w0 w := by
  refine calls_of_WC (args := []) Try.func19 rfl Try.ntmps19 rfl ?_
  show WC _ _ _ _ [] _
  have hS := ST.start w0 No
  refine WC.seq ?_
  refine WC.region ?_
  refine WL.pv (pv_assign rfl) rfl ?_
  refine WL.nil ?_
  refine QN.thenW ?_
  refine WC.seq ?_
  refine WC.region ?_
  refine WL.buildV (parts := [(0, .const (.int .u8 97)), (1, .const (.int .u8 98)), (2, .const (.int .u8 99))]) (vs := [b8 97, b8 98, b8 99]) hS slT_22 zeroT_5 (by simp) rfl rfl rfl (by simp [Value.cells]) rfl rfl ?_
  intro b2 w hb2 hS
  change ST w0 No w [.blk b2 5 (bs8 [97, 98, 99])] at hS
  refine WL.convS (k := 0) hS Try.underlying22 Try.underlying5 rfl rfl rfl ?_
  intro w hS
  refine WL.call (args := [.tmp 3]) cf_20 rfl rfl (sum_c _ 3 3 [97, 98, 99] _ ((hS.bk (k := 0) rfl).rs 0 3 3 1 (by omega) (by simp [maxLen]) (by simp [bs8]))) ?_
  rintro _ w ⟨rfl, hF⟩
  refine ⟨_, rfl, ?_⟩
  replace hS := hS.no hF
  obtain ⟨tl, htl⟩ := abc_sha
  have hlen := shaV_len [97, 98, 99]
  rw [htl]
  rw [htl] at hlen
  refine WL.alloc hS zeroT_25 rfl ?_
  intro b1 w hb1 hS
  refine WL.storeAll (k := 0) (vs := bs8 (186 :: 120 :: 22 :: 191 :: tl)) hS (by rw [sizeT_25, bs8_len, hlen]) rfl rfl rfl bs8_one (by rw [bs8_len, hlen]; simp) ?_
  intro w hS
  try simp only [List.set] at hS
  refine WL.nil ?_
  refine QN.thenW ?_
  refine WC.seq ?_
  refine WC.region ?_
  refine WL.pv (pv_indexAddrA1Z (j := 0) arrT_25 rfl rfl rfl (by omega)) rfl ?_
  refine WL.rv (rv_load_blk (k := 0) hS oneT_5 rfl rfl rfl) rfl ?_
  refine WL.pv (pv_eql rfl rfl) rfl ?_
  refine WL.pv (pv_move rfl) rfl ?_
  refine WL.guardT rfl rfl rfl (lkT rfl (by decide)) ?_
  refine WL.pv (pv_indexAddrA1Z (j := 1) arrT_25 rfl rfl rfl (by omega)) rfl ?_
  refine WL.guardT rfl rfl rfl (lkT rfl (by decide)) ?_
  refine WL.rv (rv_load_blk (k := 0) hS oneT_5 rfl rfl rfl) rfl ?_
  refine WL.guardT rfl rfl rfl (lkT rfl (by decide)) ?_
  refine WL.pv (pv_eql rfl rfl) rfl ?_
  refine WL.pv (pv_pick1 (lkT rfl (by decide)) rfl) rfl ?_
  refine WL.pv (pv_move rfl) rfl ?_
  refine WL.guardT rfl rfl rfl (lkT rfl (by decide)) ?_
  refine WL.pv (pv_indexAddrA1Z (j := 2) arrT_25 rfl rfl rfl (by omega)) rfl ?_
  refine WL.guardT rfl rfl rfl (lkT rfl (by decide)) ?_
  refine WL.rv (rv_load_blk (k := 0) hS oneT_5 rfl rfl rfl) rfl ?_
  refine WL.guardT rfl rfl rfl (lkT rfl (by decide)) ?_
  refine WL.pv (pv_eql rfl rfl) rfl ?_
  refine WL.pv (pv_pick1 (lkT rfl (by decide)) rfl) rfl ?_
  refine WL.pv (pv_move rfl) rfl ?_
  refine WL.guardT rfl rfl rfl (lkT rfl (by decide)) ?_
  refine WL.pv (pv_indexAddrA1Z (j := 3) arrT_25 rfl rfl rfl (by omega)) rfl ?_
  refine WL.guardT rfl rfl rfl (lkT rfl (by decide)) ?_
  refine WL.rv (rv_load_blk (k := 0) hS oneT_5 rfl rfl rfl) rfl ?_
  refine WL.guardT rfl rfl rfl (lkT rfl (by decide)) ?_
  refine WL.pv (pv_eql rfl rfl) rfl ?_
  refine WL.pv (pv_pick1 (lkT rfl (by decide)) rfl) rfl ?_
  refine WL.pv (pv_assign rfl) rfl ?_
  refine WL.nil ?_
  refine QN.thenW ?_
  refine WC.ret ?_
  refine QN.ret1 rfl rfl ?_
  exact ⟨rfl, hS.fr⟩

set_option maxRecDepth 100000 in
theorem shaSum_c (A : Option Addr) (m c : Nat) (bl : List UInt8) (w0 : World) (hb : Rs w0 (.slice A m c) 1 (bs8 bl)) : Calls Try.prog 3 #[.slice A m c] w0 fun e w => e = .returned (.bool true) ∧ Fr No w0 w := by
  have hln := hb.len
  rw [bs8_len] at hln
  have hmx : m ≤ 9223372036854775807 := by have := hln; simp only [maxLen] at this; omega
  refine calls_of_WC (args := [.slice A m c]) Try.func3 rfl Try.ntmps3 rfl ?_
  show WC _ _ _ _ [(0, .slice A m c)] _
  have hS := ST.start w0 No
  refine WC.seq ?_
  refine WC.region ?_
  refine WL.pv (pv_assign rfl) rfl ?_
  refine WL.nil ?_
  refine QN.thenW ?_
  refine WC.seq ?_
  refine WC.seq ?_
  refine WC.region ?_
  refine WL.call (args := []) cf_19 rfl rfl (wakes_c _) ?_
  rintro _ w ⟨rfl, hF⟩
  refine ⟨_, rfl, ?_⟩
  replace hS := hS.no hF
  refine WL.pv (pv_not rfl) rfl ?_
  refine WL.nil ?_
  refine QN.thenW ?_
  refine WC.condF rfl rfl ?_
  refine WC.skip ?_
  refine QN.thenW ?_
  refine WC.seq ?_
  refine WC.seq ?_
  refine WC.region ?_
  refine WL.pv (pv_move rfl) rfl ?_
  refine WL.pv (pv_len slS_22 rfl) rfl ?_
  refine WL.pv (pv_gtr rfl rfl) rfl ?_
  refine WL.nil ?_
  refine QN.thenW ?_
  refine WC.condD rfl (fun hc8 => ?_) (fun hc8 => ?_)
  · skip
    refine WC.seq ?_
    refine WC.region ?_
    refine WL.pv (pv_assign rfl) rfl ?_
    refine WL.nil ?_
    refine QN.thenW ?_
    refine WC.ret ?_
    refine QN.thenR ?_
    refine QN.ret1 rfl rfl ?_
    exact ⟨by simp, hS.fr⟩
  · skip
    have h3000 : bl.length ≤ 3000 := by omega
    refine WC.skip ?_
    refine QN.thenW ?_
    refine WC.seq ?_
    refine WC.region ?_
    refine WL.build0 hS slT_22 rfl ?_
    intro row w hrow hS
    refine WL.pv (pv_move rfl) rfl ?_
    refine WL.append (k := 0) (N := 65536) hS slT_22 zlenT_5 (by decide) rfl rfl rfl (hb.no hS.fr) bs8_one (by simp [bs8_len]; omega) (by omega) (by simp [maxLen]) rfl ?_
    intro v1 w hFr11 hS
    try simp only [List.set] at hS
    rw [List.nil_append] at hS
    obtain ⟨A1, m1, c1, rfl, _, _, _⟩ := (hS.rw_ (k := 0) rfl).anyForm
    refine WL.pv (pv_assign rfl) rfl ?_
    refine WL.nil ?_
    refine QN.thenW ?_
    refine WC.seq ?_
    refine WC.region ?_
    refine WL.pv (pv_move rfl) rfl ?_
    refine WL.call (args := [.tmp 12]) cf_20 rfl rfl (sum_c _ _ _ bl _ (hS.rw_ (k := 0) rfl).rs) ?_
    rintro _ w ⟨rfl, hF⟩
    refine ⟨_, rfl, ?_⟩
    replace hS := hS.no hF
    refine WL.pv (pv_move rfl) rfl ?_
    refine WL.call (args := [.tmp 14]) cf_21 rfl rfl (refSum_c _ _ _ bl _ (hb.no hS.fr) (by omega)) ?_
    rintro _ w ⟨rfl, hF⟩
    refine ⟨_, rfl, ?_⟩
    replace hS := hS.no hF
    rw [sha_eq]
    refine WL.pv (pv_eqlA8 Try.underlying25 Try.underlying5 cellsT_5 eqgT_25 rfl rfl (refV_len _) (refV_len _)) rfl ?_
    refine WL.pv (pv_move rfl) rfl ?_
    refine WL.guardT rfl rfl rfl (lkT rfl (by rfl)) ?_
    refine WL.pv (pv_move rfl) rfl ?_
    refine WL.guardT rfl rfl rfl (lkT rfl (by rfl)) ?_
    refine WL.pv (pv_move rfl) rfl ?_
    refine WL.guardT rfl rfl rfl (lkT rfl (by rfl)) ?_
    refine WL.call (args := [.tmp 18, .tmp 19]) cf_22 rfl rfl (same_c _ _ _ _ _ _ bl bl _ (hS.rw_ (k := 0) rfl).rs (hb.no hS.fr)) ?_
    rintro _ w ⟨rfl, hF⟩
    refine ⟨_, rfl, ?_⟩
    replace hS := hS.no hF
    refine WL.pv (pv_pick1 (lkT rfl (by rfl)) rfl) rfl ?_
    refine WL.pv (pv_assign rfl) rfl ?_
    refine WL.nil ?_
    refine QN.thenW ?_
    refine WC.ret ?_
    refine QN.ret1 rfl rfl ?_
    exact ⟨by simp, hS.fr⟩

end Go.Proofs.Ytjcebkhhgdgohaa
