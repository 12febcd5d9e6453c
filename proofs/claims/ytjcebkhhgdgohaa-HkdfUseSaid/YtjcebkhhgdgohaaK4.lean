/- What a few functions of the program compute, part K4. -/
import Derived.Test.YtjcebkhhgdgohaaK3
namespace Go.Proofs.Ytjcebkhhgdgohaa
open Go Go.RowKit Go.Eng
theorem cf_30 : callable Try.prog 30 = true := by kernel_rfl
theorem cf_32 : callable Try.prog 32 = true := by kernel_rfl

theorem set_fill (k : Nat) (h : k < 22) : (List.replicate k 11 ++ List.replicate (22 - k) 0 : List UInt8).set k 11 = List.replicate (k + 1) 11 ++ List.replicate (22 - (k + 1)) 0 := by
  rw [List.set_append_right _ _ (by simp), List.length_replicate, Nat.sub_self, show 22 - k = (22 - (k + 1)) + 1 from by omega, List.replicate_succ, List.set_cons_zero, List.replicate_succ']
  simp

set_option maxRecDepth 100000 in
theorem wakesK_c (w0 : World) : Calls Try.prog 29 #[] w0 fun e w => e = .returned (.bool true) ∧ Fr No w0 w := by
  refine calls_of_WC (args := []) Try.func29 rfl Try.ntmps29 rfl ?_
  show WC _ _ _ _ [] _
  have hS := ST.start w0 No
  refine WC.seq ?_
  refine WC.region ?_
  refine WL.pv (pv_assign rfl) rfl ?_
  refine WL.nil ?_
  refine QN.thenW ?_
  refine WC.seq ?_
  refine WC.region ?_
  refine WL.makeB (c := 22) hS slT_22 zeroT_5 (by simp) rfl rfl (by omega) (by simp [maxLen]) rfl ?_
  intro bk w hbk hS
  rw [show (List.replicate 22 [b8 0]).flatten = bs8 (List.replicate 0 11 ++ List.replicate (22 - 0) 0) from by simp [bs8]] at hS
  refine WL.pv (pv_assign rfl) rfl ?_
  refine WL.nil ?_
  refine QN.thenW ?_
  refine WC.seq ?_
  refine WC.seq ?_
  refine WC.region ?_
  refine WL.pv (pv_move rfl) rfl ?_
  refine WL.pv (pv_len slS_22 rfl) rfl ?_
  refine WL.pv (pv_move rfl) rfl ?_
  refine WL.nil ?_
  refine QN.thenW ?_
  refine WC.block ?_
  refine WC.loop (α := Nat) (fun k => [(1, .slice (some ⟨bk, 0, none⟩) 22 22), (9, .int .i64 ((22 : Nat) : Int)), (10, .int .i64 (k : Int))]) (fun k w => k ≤ 22 ∧ ST w0 No w [.blk bk 5 (bs8 (List.replicate k 11 ++ List.replicate (22 - k) 0))]) (fun k => 22 - k) (0) (Sub.cons rfl (Sub.cons rfl (Sub.cons rfl Sub.nil))) ⟨by omega, hS⟩ ?_
  rintro k w N hN hR
  obtain ⟨hk, hS⟩ := hR
  refine WC.seq ?_
  refine WC.region ?_
  refine WL.pv (pv_lss rfl rfl) rfl ?_
  refine WL.nil ?_
  refine QN.thenW ?_
  refine WC.seq ?_
  refine WC.condD rfl (fun hc11 => ?_) (fun hc11 => ?_)
  · skip
    have hk22 : k < 22 := by omega
    refine WC.skip ?_
    refine QN.thenW ?_
    refine WC.seq ?_
    refine WC.block ?_
    refine WC.seq ?_
    refine WC.region ?_
    refine WL.pv (pv_move rfl) rfl ?_
    refine WL.pv (pv_assign rfl) rfl ?_
    refine WL.nil ?_
    refine QN.thenW ?_
    refine WC.region ?_
    refine WL.pv (pv_move rfl) rfl ?_
    refine WL.pv (pv_move rfl) rfl ?_
    refine WL.pv (pv_indexAddrS1Z slT_22 rfl rfl rfl (by omega)) rfl ?_
    refine WL.store (k := 0) hS sizeT_5 rfl rfl rfl rfl (by rw [bs8_len]; simp; omega) ?_
    intro w hS
    try simp only [List.set] at hS
    change ST w0 No w [.blk bk 5 ((bs8 (List.replicate k 11 ++ List.replicate (22 - k) 0)).set k (b8 11))] at hS
    rw [bs8_set, set_fill k hk22] at hS
    refine WL.nil ?_
    refine QN.blockN ?_
    refine QN.thenW ?_
    refine WC.region ?_
    refine WL.pv (pv_add rfl rfl (by omega)) rfl ?_
    refine WL.pv (pv_move rfl) rfl ?_
    refine WL.nil ?_
    refine QN.roundE ?_
    refine ⟨(k + 1), (Sub.cons rfl (Sub.cons rfl (Sub.cons rfl Sub.nil))), ⟨by omega, hS⟩, ?_⟩
    first | omega | (dsimp only; omega)
  · skip
    obtain rfl : k = 22 := by omega
    change ST w0 No w [.blk bk 5 (bs8 ikmW)] at hS
    refine WC.exit ?_
    refine QN.thenX ?_
    refine QN.thenX ?_
    refine QN.blockX ?_
    refine QN.thenW ?_
    refine WC.seq ?_
    refine WC.region ?_
    refine WL.buildV (parts := [(0, .const (.int .u8 0)), (1, .const (.int .u8 1)), (2, .const (.int .u8 2)), (3, .const (.int .u8 3)), (4, .const (.int .u8 4)), (5, .const (.int .u8 5)), (6, .const (.int .u8 6)), (7, .const (.int .u8 7)), (8, .const (.int .u8 8)), (9, .const (.int .u8 9)), (10, .const (.int .u8 10)), (11, .const (.int .u8 11)), (12, .const (.int .u8 12))]) (vs := [b8 0, b8 1, b8 2, b8 3, b8 4, b8 5, b8 6, b8 7, b8 8, b8 9, b8 10, b8 11, b8 12]) hS slT_22 zeroT_5 (by simp) rfl rfl rfl (by simp [Value.cells]) rfl rfl ?_
    intro bs w hbs hS
    change ST w0 No w [.blk bs 5 (bs8 saltW), .blk bk 5 (bs8 ikmW)] at hS
    refine WL.pv (pv_assign rfl) rfl ?_
    refine WL.nil ?_
    refine QN.thenW ?_
    refine WC.seq ?_
    refine WC.region ?_
    refine WL.buildV (parts := [(0, .const (.int .u8 240)), (1, .const (.int .u8 241)), (2, .const (.int .u8 242)), (3, .const (.int .u8 243)), (4, .const (.int .u8 244)), (5, .const (.int .u8 245)), (6, .const (.int .u8 246)), (7, .const (.int .u8 247)), (8, .const (.int .u8 248)), (9, .const (.int .u8 249))]) (vs := [b8 240, b8 241, b8 242, b8 243, b8 244, b8 245, b8 246, b8 247, b8 248, b8 249]) hS slT_22 zeroT_5 (by simp) rfl rfl rfl (by simp [Value.cells]) rfl rfl ?_
    intro bi w hbi hS
    change ST w0 No w [.blk bi 5 (bs8 infoW), .blk bs 5 (bs8 saltW), .blk bk 5 (bs8 ikmW)] at hS
    refine WL.pv (pv_assign rfl) rfl ?_
    refine WL.nil ?_
    refine QN.thenW ?_
    refine WC.seq ?_
    refine WC.region ?_
    refine WL.pv (pv_move rfl) rfl ?_
    refine WL.pv (pv_move rfl) rfl ?_
    refine WL.call (args := [.tmp 20, .tmp 21]) cf_30 rfl rfl (extract_c _ _ 13 13 22 22 saltW ikmW _ (Bk.rsAll (hS.bk (k := 1) rfl) rfl (by simp [maxLen])) (Bk.rsAll (hS.bk (k := 2) rfl) rfl (by simp [maxLen]))) ?_
    rintro _ w ⟨rfl, hF⟩
    refine ⟨_, rfl, ?_⟩
    replace hS := hS.no hF
    rw [prkV]
    refine WL.pv (pv_move rfl) rfl ?_
    refine WL.call (args := [.tmp 22, .tmp 23, .const (.int .i64 42)]) cf_32 rfl rfl (expand_c _ 10 10 42 prkW infoW _ rfl (Bk.rsAll (hS.bk (k := 0) rfl) rfl (by simp [maxLen])) (by decide) (by omega)) ?_
    rintro _ w ⟨v, rfl, hF, hv⟩
    refine ⟨_, rfl, ?_⟩
    replace hS := hS.no hF
    obtain ⟨tl, htl⟩ := okm
    have hl42 : (expandV prkW infoW 42).length = 42 := by rw [expandV, List.length_take, expO_len]; rfl
    obtain ⟨Av, mv, cv, rfl, _, _, _, _⟩ := id hv
    have hmv := hv.len
    rw [bs8_len, hl42] at hmv
    obtain rfl : mv = 42 := by omega
    obtain ⟨bv, ov, rfl, _, _, _, hcv⟩ := hv.at_ (by rw [bs8_len, hl42]; omega)
    rw [htl] at hcv
    refine WL.pv (pv_move rfl) rfl ?_
    refine WL.pv (pv_extract rfl rfl) rfl ?_
    refine WL.pv (pv_extract rfl rfl) rfl ?_
    refine WL.pv (pv_assign rfl) rfl ?_
    refine WL.pv (pv_assign rfl) rfl ?_
    refine WL.nil ?_
    refine QN.thenW ?_
    refine WC.seq ?_
    refine WC.region ?_
    refine WL.pv (pv_move rfl) rfl ?_
    refine WL.pv (pv_eql rfl rfl) rfl ?_
    refine WL.pv (pv_move rfl) rfl ?_
    refine WL.guardT rfl rfl rfl (lkT rfl (by decide)) ?_
    refine WL.pv (pv_move rfl) rfl ?_
    refine WL.guardT rfl rfl rfl (lkT rfl (by decide)) ?_
    refine WL.pv (pv_len slS_22 rfl) rfl ?_
    refine WL.guardT rfl rfl rfl (lkT rfl (by decide)) ?_
    refine WL.pv (pv_eql rfl rfl) rfl ?_
    refine WL.pv (pv_pick1 (lkT rfl (by decide)) rfl) rfl ?_
    refine WL.pv (pv_move rfl) rfl ?_
    refine WL.guardT rfl rfl rfl (lkT rfl (by decide)) ?_
    refine WL.pv (pv_move rfl) rfl ?_
    refine WL.guardT rfl rfl rfl (lkT rfl (by decide)) ?_
    refine WL.pv (pv_indexAddrS1 (j := 0) slT_22 rfl rfl rfl (by omega)) rfl ?_
    refine WL.guardT rfl rfl rfl (lkT rfl (by decide)) ?_
    refine WL.rv (rv_load oneT_5 rfl (hcv 0 _ rfl)) rfl ?_
    refine WL.guardT rfl rfl rfl (lkT rfl (by decide)) ?_
    refine WL.pv (pv_eql rfl rfl) rfl ?_
    refine WL.pv (pv_pick1 (lkT rfl (by decide)) rfl) rfl ?_
    refine WL.pv (pv_move rfl) rfl ?_
    refine WL.guardT rfl rfl rfl (lkT rfl (by decide)) ?_
    refine WL.pv (pv_move rfl) rfl ?_
    refine WL.guardT rfl rfl rfl (lkT rfl (by decide)) ?_
    refine WL.pv (pv_indexAddrS1 (j := 1) slT_22 rfl rfl rfl (by omega)) rfl ?_
    refine WL.guardT rfl rfl rfl (lkT rfl (by decide)) ?_
    refine WL.rv (rv_load oneT_5 rfl (hcv 1 _ rfl)) rfl ?_
    refine WL.guardT rfl rfl rfl (lkT rfl (by decide)) ?_
    refine WL.pv (pv_eql rfl rfl) rfl ?_
    refine WL.pv (pv_pick1 (lkT rfl (by decide)) rfl) rfl ?_
    refine WL.pv (pv_move rfl) rfl ?_
    refine WL.guardT rfl rfl rfl (lkT rfl (by decide)) ?_
    refine WL.pv (pv_move rfl) rfl ?_
    refine WL.guardT rfl rfl rfl (lkT rfl (by decide)) ?_
    refine WL.pv (pv_indexAddrS1 (j := 2) slT_22 rfl rfl rfl (by omega)) rfl ?_
    refine WL.guardT rfl rfl rfl (lkT rfl (by decide)) ?_
    refine WL.rv (rv_load oneT_5 rfl (hcv 2 _ rfl)) rfl ?_
    refine WL.guardT rfl rfl rfl (lkT rfl (by decide)) ?_
    refine WL.pv (pv_eql rfl rfl) rfl ?_
    refine WL.pv (pv_pick1 (lkT rfl (by decide)) rfl) rfl ?_
    refine WL.pv (pv_move rfl) rfl ?_
    refine WL.guardT rfl rfl rfl (lkT rfl (by decide)) ?_
    refine WL.pv (pv_move rfl) rfl ?_
    refine WL.guardT rfl rfl rfl (lkT rfl (by decide)) ?_
    refine WL.pv (pv_indexAddrS1 (j := 3) slT_22 rfl rfl rfl (by omega)) rfl ?_
    refine WL.guardT rfl rfl rfl (lkT rfl (by decide)) ?_
    refine WL.rv (rv_load oneT_5 rfl (hcv 3 _ rfl)) rfl ?_
    refine WL.guardT rfl rfl rfl (lkT rfl (by decide)) ?_
    refine WL.pv (pv_eql rfl rfl) rfl ?_
    refine WL.pv (pv_pick1 (lkT rfl (by decide)) rfl) rfl ?_
    refine WL.pv (pv_assign rfl) rfl ?_
    refine WL.nil ?_
    refine QN.thenW ?_
    refine WC.ret ?_
    refine QN.ret1 rfl rfl ?_
    exact ⟨rfl, hS.fr⟩

end Go.Proofs.Ytjcebkhhgdgohaa
