/- What a few functions of the program compute, part H3. -/
import Derived.Test.YtjcebkhhgdgohaaH2
namespace Go.Proofs.Ytjcebkhhgdgohaa
open Go Go.RowKit Go.Eng
theorem cf_26 : callable Try.prog 26 = true := by kernel_rfl

def keyW : List UInt8 := [74, 101, 102, 101]
def textW : List UInt8 := [119, 104, 97, 116, 32, 100, 111, 32, 121, 97, 32, 119, 97, 110, 116, 32, 102, 111, 114, 32, 110, 111, 116, 104, 105, 110, 103, 63]
theorem jefe1 : refV (inP keyW ++ textW) = [162, 228, 133, 134, 61, 39, 249, 216, 100, 172, 141, 128, 36, 50, 161, 237, 71, 125, 140, 76, 111, 52, 157, 22, 212, 231, 233, 23, 198, 41, 202, 215] := by decide +kernel
theorem jefe2 : (refV (outP keyW ++ [162, 228, 133, 134, 61, 39, 249, 216, 100, 172, 141, 128, 36, 50, 161, 237, 71, 125, 140, 76, 111, 52, 157, 22, 212, 231, 233, 23, 198, 41, 202, 215])).take 4 = [91, 220, 193, 70] := by decide +kernel
theorem jefe : ∃ tl, hmacV keyW textW = 91 :: 220 :: 193 :: 70 :: tl := by
  rw [hmacV, sha_eq, sha_eq, jefe1]
  have e := List.take_append_drop 4 (refV (outP keyW ++ [162, 228, 133, 134, 61, 39, 249, 216, 100, 172, 141, 128, 36, 50, 161, 237, 71, 125, 140, 76, 111, 52, 157, 22, 212, 231, 233, 23, 198, 41, 202, 215]))
  rw [jefe2] at e
  exact ⟨_, e.symm⟩

set_option maxRecDepth 100000 in
theorem wakesH_c (w0 : World) : Calls Try.prog 25 #[] w0 fun e w => e = .returned (.bool true) ∧ Fr No w0 w := by
  refine calls_of_WC (args := []) Try.func25 rfl Try.ntmps25 rfl ?_
  show WC _ _ _ _ [] _
  have hS := ST.start w0 No
  refine WC.seq ?_
  refine WC.region ?_
  refine WL.pv (pv_assign rfl) rfl ?_
  refine WL.nil ?_
  refine QN.thenW ?_
  refine WC.seq ?_
  refine WC.region ?_
  refine WL.buildV (parts := [(0, .const (.int .u8 74)), (1, .const (.int .u8 101)), (2, .const (.int .u8 102)), (3, .const (.int .u8 101))]) (vs := [b8 74, b8 101, b8 102, b8 101]) hS slT_22 zeroT_5 (by simp) rfl rfl rfl (by simp [Value.cells]) rfl rfl ?_
  intro b2 w hb2 hS
  change ST w0 No w [.blk b2 5 (bs8 keyW)] at hS
  refine WL.convS (k := 0) hS Try.underlying22 Try.underlying5 rfl rfl rfl ?_
  intro w hS
  refine WL.buildV (parts := [(0, .const (.int .u8 119)), (1, .const (.int .u8 104)), (2, .const (.int .u8 97)), (3, .const (.int .u8 116)), (4, .const (.int .u8 32)), (5, .const (.int .u8 100)), (6, .const (.int .u8 111)), (7, .const (.int .u8 32)), (8, .const (.int .u8 121)), (9, .const (.int .u8 97)), (10, .const (.int .u8 32)), (11, .const (.int .u8 119)), (12, .const (.int .u8 97)), (13, .const (.int .u8 110)), (14, .const (.int .u8 116)), (15, .const (.int .u8 32)), (16, .const (.int .u8 102)), (17, .const (.int .u8 111)), (18, .const (.int .u8 114)), (19, .const (.int .u8 32)), (20, .const (.int .u8 110)), (21, .const (.int .u8 111)), (22, .const (.int .u8 116)), (23, .const (.int .u8 104)), (24, .const (.int .u8 105)), (25, .const (.int .u8 110)), (26, .const (.int .u8 103)), (27, .const (.int .u8 63))]) (vs := [b8 119, b8 104, b8 97, b8 116, b8 32, b8 100, b8 111, b8 32, b8 121, b8 97, b8 32, b8 119, b8 97, b8 110, b8 116, b8 32, b8 102, b8 111, b8 114, b8 32, b8 110, b8 111, b8 116, b8 104, b8 105, b8 110, b8 103, b8 63]) hS slT_22 zeroT_5 (by simp) rfl rfl rfl (by simp [Value.cells]) rfl rfl ?_
  intro b4 w hb4 hS
  change ST w0 No w [.blk b4 5 (bs8 textW), .blk b2 5 (bs8 keyW)] at hS
  refine WL.convS (k := 0) hS Try.underlying22 Try.underlying5 rfl rfl rfl ?_
  intro w hS
  refine WL.call (args := [.tmp 3, .tmp 5]) cf_26 rfl rfl (tag_c _ _ 4 4 28 28 keyW textW _ (Bk.rsAll (hS.bk (k := 1) rfl) rfl (by simp [maxLen])) (Bk.rsAll (hS.bk (k := 0) rfl) rfl (by simp [maxLen]))) ?_
  rintro _ w ⟨rfl, hF⟩
  refine ⟨_, rfl, ?_⟩
  replace hS := hS.no hF
  obtain ⟨tl, htl⟩ := jefe
  have hlen := hmacV_len keyW textW
  rw [htl]
  rw [htl] at hlen
  refine WL.alloc hS zeroT_25 rfl ?_
  intro b1 w hb1 hS
  refine WL.storeAll (k := 0) (vs := bs8 (91 :: 220 :: 193 :: 70 :: tl)) hS (by rw [sizeT_25, bs8_len, hlen]) rfl rfl rfl bs8_one (by rw [bs8_len, hlen]; simp) ?_
  intro w hS
  try simp only [List.set] at hS
  refine WL.nil ?_
  refine QN.thenW ?_
  refine WC.seq ?_
  refine WC.region ?_
  refine WL.pv (pv_indexAddrA1Z (j := 0) arrT_25 rfl rfl rfl (by omega)) rfl ?_
  refine WL.rv (rv_load_blk (k := 0) hS oneT_5 rfl rfl rfl) rfl ?_
  refine WL.pv (pv_eql rfl rfl) rfl ?_
  refine WL.pv (pv_move rfl) rfl ?_
  refine WL.guardT rfl rfl rfl (lkT rfl (by decide)) ?_
  refine WL.pv (pv_indexAddrA1Z (j := 1) arrT_25 rfl rfl rfl (by omega)) rfl ?_
  refine WL.guardT rfl rfl rfl (lkT rfl (by decide)) ?_
  refine WL.rv (rv_load_blk (k := 0) hS oneT_5 rfl rfl rfl) rfl ?_
  refine WL.guardT rfl rfl rfl (lkT rfl (by decide)) ?_
  refine WL.pv (pv_eql rfl rfl) rfl ?_
  refine WL.pv (pv_pick1 (lkT rfl (by decide)) rfl) rfl ?_
  refine WL.pv (pv_move rfl) rfl ?_
  refine WL.guardT rfl rfl rfl (lkT rfl (by decide)) ?_
  refine WL.pv (pv_indexAddrA1Z (j := 2) arrT_25 rfl rfl rfl (by omega)) rfl ?_
  refine WL.guardT rfl rfl rfl (lkT rfl (by decide)) ?_
  refine WL.rv (rv_load_blk (k := 0) hS oneT_5 rfl rfl rfl) rfl ?_
  refine WL.guardT rfl rfl rfl (lkT rfl (by decide)) ?_
  refine WL.pv (pv_eql rfl rfl) rfl ?_
  refine WL.pv (pv_pick1 (lkT rfl (by decide)) rfl) rfl ?_
  refine WL.pv (pv_move rfl) rfl ?_
  refine WL.guardT rfl rfl rfl (lkT rfl (by decide)) ?_
  refine WL.pv (pv_indexAddrA1Z (j := 3) arrT_25 rfl rfl rfl (by omega)) rfl ?_
  refine WL.guardT rfl rfl rfl (lkT rfl (by decide)) ?_
  refine WL.rv (rv_load_blk (k := 0) hS oneT_5 rfl rfl rfl) rfl ?_
  refine WL.guardT rfl rfl rfl (lkT rfl (by decide)) ?_
  refine WL.pv (pv_eql rfl rfl) rfl ?_
  refine WL.pv (pv_pick1 (lkT rfl (by decide)) rfl) rfl ?_
  refine WL.pv (pv_assign rfl) rfl ?_
  refine WL.nil ?_
  refine QN.thenW ?_
  refine WC.ret ?_
  refine QN.ret1 rfl rfl ?_
  exact ⟨rfl, hS.fr⟩

end Go.Proofs.Ytjcebkhhgdgohaa
