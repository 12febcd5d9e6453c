/- What a few functions of the program compute, part K1. -/
import Derived.Test.YtjcebkhhgdgohaaH4
namespace Go.Proofs.Ytjcebkhhgdgohaa
open Go Go.RowKit Go.Eng


def saltV (s : List UInt8) : List UInt8 := if s.length = 0 then List.replicate 32 0 else s
def extractV (s t : List UInt8) : List UInt8 := hmacV (saltV s) t
theorem extractV_len (s t : List UInt8) : (extractV s t).length = 32 := hmacV_len _ _

set_option maxRecDepth 100000 in
theorem extract_c (A B : Option Addr) (m c m2 c2 : Nat) (salt text : List UInt8) (w0 : World) (hk : Rs w0 (.slice A m c) 1 (bs8 salt)) (ht : Rs w0 (.slice B m2 c2) 1 (bs8 text)) : Calls Try.prog 30 #[.slice A m c, .slice B m2 c2] w0 (KeyPost (extractV salt text) w0) := by
  have hln := hk.len
  rw [bs8_len] at hln
  refine calls_of_WC (args := [.slice A m c, .slice B m2 c2]) Try.func30 rfl Try.ntmps30 rfl ?_
  show WC _ _ _ _ [(0, .slice A m c), (1, .slice B m2 c2)] _
  have hS := ST.start w0 No
  refine WC.seq ?_
  refine WC.region ?_
  refine WL.alloc hS zeroT_25 rfl ?_
  intro b4 w hb4 hS
  refine WL.nil ?_
  refine QN.thenW ?_
  refine WC.cut (α := Value) (fun kv => [(0, kv), (1, .slice B m2 c2), (4, .pointer (some ⟨b4, 0, none⟩))]) (fun kv w => Rs w kv 1 (bs8 (saltV salt)) ∧ ST w0 No w [.blk b4 25 (List.replicate 32 (b8 0))]) ?_ ?_
  · skip
    refine WC.seq ?_
    refine WC.region ?_
    refine WL.pv (pv_move rfl) rfl ?_
    refine WL.pv (pv_len slS_22 rfl) rfl ?_
    refine WL.pv (pv_eql rfl rfl) rfl ?_
    refine WL.nil ?_
    refine QN.thenW ?_
    refine WC.condD rfl (fun hc8 => ?_) (fun hc8 => ?_)
    · skip
      have hs : saltV salt = List.replicate 32 0 := by rw [saltV, if_pos (by omega)]
      refine WC.seq ?_
      refine WC.region ?_
      refine WL.alloc hS zeroT_25 rfl ?_
      intro b5 w hb5 hS
      refine WL.nil ?_
      refine QN.thenW ?_
      refine WC.region ?_
      refine WL.pv (pv_sliceW arrT_25 rfl) rfl ?_
      refine WL.pv (pv_assign rfl) rfl ?_
      refine WL.nil ?_
      first
      | (have hend : Rs w (.slice (some ⟨b5, 0, none⟩) 32 32) 1 (bs8 (saltV salt)) ∧ ST w0 No w [.blk b4 25 (List.replicate 32 (b8 0))] := by
           refine ⟨?_, hS.drop⟩
           rw [hs]; exact Bk.rsAll (l := List.replicate 32 0) (hS.bk (k := 0) rfl) (by simp) (by simp [maxLen]))
      | (have hend : Rs w (.slice A m c) 1 (bs8 (saltV salt)) ∧ ST w0 No w [.blk b4 25 (List.replicate 32 (b8 0))] := ⟨by rw [hs]; exact hk.no hS.fr, hS⟩)
      refine QN.midE ?_
      exact ⟨(_), (Sub.cons rfl (Sub.cons rfl (Sub.cons rfl Sub.nil))), hend⟩
    · skip
      have hs : saltV salt = salt := by rw [saltV, if_neg (by omega)]
      refine WC.skip ?_
      first
      | (have hend : Rs w (.slice (some ⟨b5, 0, none⟩) 32 32) 1 (bs8 (saltV salt)) ∧ ST w0 No w [.blk b4 25 (List.replicate 32 (b8 0))] := by
           refine ⟨?_, hS.drop⟩
           rw [hs]; exact Bk.rsAll (l := List.replicate 32 0) (hS.bk (k := 0) rfl) (by simp) (by simp [maxLen]))
      | (have hend : Rs w (.slice A m c) 1 (bs8 (saltV salt)) ∧ ST w0 No w [.blk b4 25 (List.replicate 32 (b8 0))] := ⟨by rw [hs]; exact hk.no hS.fr, hS⟩)
      refine QN.midE ?_
      exact ⟨(_), (Sub.cons rfl (Sub.cons rfl (Sub.cons rfl Sub.nil))), hend⟩
  · rintro kv w hR
    obtain ⟨hkv, hS⟩ := hR
    obtain ⟨Ak, mk, ck, rfl, _, _, _, _⟩ := id hkv
    refine WC.seq ?_
    refine WC.region ?_
    refine WL.pv (pv_move rfl) rfl ?_
    refine WL.pv (pv_move rfl) rfl ?_
    refine WL.call (args := [.tmp 10, .tmp 11]) cf_26 rfl rfl (tag_c _ _ _ _ _ _ (saltV salt) text _ hkv (ht.no hS.fr)) ?_
    rintro _ w ⟨rfl, hF⟩
    refine ⟨_, rfl, ?_⟩
    replace hS := hS.no hF
    refine WL.storeAll (k := 0) (vs := bs8 (extractV salt text)) hS (by rw [sizeT_25, bs8_len, extractV_len]) rfl rfl rfl bs8_one (by simp [bs8_len, extractV_len]) ?_
    intro w hS
    try simp only [List.set] at hS
    refine WL.nil ?_
    refine QN.thenW ?_
    refine WC.ret ?_
    refine QN.retK (k := 0) rfl rfl hS rfl (by rw [aggT_25, bs8_len, extractV_len]) ?_
    exact ⟨rfl, hS.fr⟩

set_option maxRecDepth 100000 in
theorem refExtract_c (A B : Option Addr) (m c m2 c2 : Nat) (salt text : List UInt8) (w0 : World) (hk : Rs w0 (.slice A m c) 1 (bs8 salt)) (ht : Rs w0 (.slice B m2 c2) 1 (bs8 text)) (hkl : salt.length ≤ 9000) (htl : text.length ≤ 9000) : Calls Try.prog 31 #[.slice A m c, .slice B m2 c2] w0 (KeyPost (extractV salt text) w0) := by
  have hln := hk.len
  rw [bs8_len] at hln
  refine calls_of_WC (args := [.slice A m c, .slice B m2 c2]) Try.func31 rfl Try.ntmps31 rfl ?_
  show WC _ _ _ _ [(0, .slice A m c), (1, .slice B m2 c2)] _
  have hS := ST.start w0 No
  refine WC.seq ?_
  refine WC.region ?_
  refine WL.alloc hS zeroT_25 rfl ?_
  intro b4 w hb4 hS
  refine WL.nil ?_
  refine QN.thenW ?_
  refine WC.seq ?_
  refine WC.seq ?_
  refine WC.region ?_
  refine WL.pv (pv_move rfl) rfl ?_
  refine WL.pv (pv_len slS_22 rfl) rfl ?_
  refine WL.pv (pv_eql rfl rfl) rfl ?_
  refine WL.nil ?_
  refine QN.thenW ?_
  refine WC.condD rfl (fun hc7 => ?_) (fun hc7 => ?_)
  · skip
    have hs : saltV salt = List.replicate 32 0 := by rw [saltV, if_pos (by omega)]
    refine WC.seq ?_
    refine WC.region ?_
    refine WL.makeB (c := 32) hS slT_22 zeroT_5 (by simp) rfl rfl (by omega) (by simp [maxLen]) rfl ?_
    intro b5 w hb5 hS
    refine WL.pv (pv_move rfl) rfl ?_
    refine WL.call (args := [.tmp 8, .tmp 9]) cf_27 rfl rfl (refTag_c _ _ _ _ _ _ (saltV salt) text _ (by rw [hs]; exact Bk.rsAll (l := List.replicate 32 0) (hS.bk (k := 0) rfl) (by simp) (by simp [maxLen])) (ht.no hS.fr) (by rw [hs]; simp) htl) ?_
    rintro _ w ⟨rfl, hF⟩
    refine ⟨_, rfl, ?_⟩
    replace hS := hS.no hF
    refine WL.storeAll (k := 1) (vs := bs8 (extractV salt text)) hS (by rw [sizeT_25, bs8_len, extractV_len]) rfl rfl rfl bs8_one (by simp [bs8_len, extractV_len]) ?_
    intro w hS
    try simp only [List.set] at hS
    refine WL.nil ?_
    refine QN.thenW ?_
    refine WC.ret ?_
    refine QN.thenR ?_
    refine QN.retK (k := 1) rfl rfl hS rfl (by rw [aggT_25, bs8_len, extractV_len]) ?_
    exact ⟨rfl, hS.fr⟩
  · skip
    have hs : saltV salt = salt := by rw [saltV, if_neg (by omega)]
    refine WC.skip ?_
    refine QN.thenW ?_
    refine WC.seq ?_
    refine WC.region ?_
    refine WL.pv (pv_move rfl) rfl ?_
    refine WL.pv (pv_move rfl) rfl ?_
    refine WL.call (args := [.tmp 11, .tmp 12]) cf_27 rfl rfl (refTag_c _ _ _ _ _ _ (saltV salt) text _ (by rw [hs]; exact hk.no hS.fr) (ht.no hS.fr) (by rw [hs]; exact hkl) htl) ?_
    rintro _ w ⟨rfl, hF⟩
    refine ⟨_, rfl, ?_⟩
    replace hS := hS.no hF
    refine WL.storeAll (k := 0) (vs := bs8 (extractV salt text)) hS (by rw [sizeT_25, bs8_len, extractV_len]) rfl rfl rfl bs8_one (by simp [bs8_len, extractV_len]) ?_
    intro w hS
    try simp only [List.set] at hS
    refine WL.nil ?_
    refine QN.thenW ?_
    refine WC.ret ?_
    refine QN.retK (k := 0) rfl rfl hS rfl (by rw [aggT_25, bs8_len, extractV_len]) ?_
    exact ⟨rfl, hS.fr⟩

end Go.Proofs.Ytjcebkhhgdgohaa
