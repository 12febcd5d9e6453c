/- What a few functions of the program compute, part H1. -/
import Derived.Test.YtjcebkhhgdgohaaL2
import Derived.Test.YtjcebkhhgdgohaaEngS
namespace Go.Proofs.Ytjcebkhhgdgohaa
open Go Go.RowKit Go.Eng
theorem aggT_97 : aggT Try.prog 97 = some 64 := by kernel_rfl
theorem arrT_97 : arrT Try.prog 97 = some (64, 1) := by kernel_rfl
theorem sizeT_97 : sizeT Try.prog 97 = some 64 := by kernel_rfl
theorem zeroT_97 : zeroT Try.prog 97 = some (List.replicate 64 (b8 0)) := by kernel_rfl

/-- A key as the tag takes it: a long one by its digest. -/
def key0 (k : List UInt8) : List UInt8 := if 64 < k.length then shaV k else k
def padK (k : List UInt8) : List UInt8 := k ++ List.replicate (64 - k.length) 0
def xorL (c : UInt8) (K : List UInt8) (i : Nat) : List UInt8 := (K.take i).map (· ^^^ c) ++ K.drop i
def inP (k : List UInt8) : List UInt8 := xorL 54 (padK (key0 k)) 64
def outP (k : List UInt8) : List UInt8 := xorL 92 (padK (key0 k)) 64
def hmacV (k t : List UInt8) : List UInt8 := shaV (outP k ++ shaV (inP k ++ t))
theorem key0_len (k : List UInt8) : (key0 k).length ≤ 64 := by
  unfold key0; split
  · rw [shaV_len]; omega
  · omega
theorem padK_len (k : List UInt8) (h : k.length ≤ 64) : (padK k).length = 64 := by simp [padK]; omega
theorem xorL_len (c : UInt8) (K : List UInt8) (i : Nat) : (xorL c K i).length = K.length := by simp [xorL]; omega
theorem xorL_zero (c : UInt8) (K : List UInt8) : xorL c K 0 = K := by simp [xorL]
theorem xorL_at (c : UInt8) (K : List UInt8) (i : Nat) (h : i < K.length) : (xorL c K i)[i]'(by rw [xorL_len]; exact h) = K[i] := by
  simp [xorL, Nat.min_eq_left (Nat.le_of_lt h)]
theorem xorL_set (c : UInt8) (K : List UInt8) (i : Nat) (h : i < K.length) : (xorL c K i).set i (K[i] ^^^ c) = xorL c K (i + 1) := by
  have hl : ((K.take i).map (· ^^^ c)).length = i := by simp; omega
  rw [xorL, List.set_append_right _ _ (by omega), hl, Nat.sub_self, List.drop_eq_getElem_cons h, List.set_cons_zero, xorL, List.take_succ_eq_append_getElem h, List.map_append, List.append_assoc]
  rfl
theorem inP_len (k : List UInt8) : (inP k).length = 64 := by rw [inP, xorL_len, padK_len _ (key0_len k)]
theorem outP_len (k : List UInt8) : (outP k).length = 64 := by rw [outP, xorL_len, padK_len _ (key0_len k)]
theorem copy_pad (k : List UInt8) (h : k.length ≤ 64) : ((List.replicate 64 (b8 0)).take 0 ++ (bs8 k).take (min k.length 64) ++ (List.replicate 64 (b8 0)).drop (0 + min k.length 64)) = bs8 (padK k) := by
  rw [Nat.min_eq_left h, Nat.zero_add, List.take_of_length_le (l := bs8 k) (by rw [bs8_len]; omega)]
  rw [List.drop_replicate, padK, bs8_app, ← bs8_rep]
  rfl
def KeyIn (w0 : World) (key : List UInt8) (b2 b3 : Nat) (kv : Value) (w : World) : Prop :=
  Rs w kv 1 (bs8 (key0 key)) ∧ (0 < (key0 key).length → ∀ b, kv.ownBlock = some b → b ≠ b2 ∧ b ≠ b3) ∧ ST w0 No w [.blk b3 97 (List.replicate 64 (b8 0)), .blk b2 97 (List.replicate 64 (b8 0))]
def PadsPost (k : List UInt8) (w0 : World) (e : Ending) (w : World) : Prop := e = .returned (.tuple #[.agg (bs8 (inP k)).toArray, .agg (bs8 (outP k)).toArray]) ∧ Fr No w0 w

set_option maxHeartbeats 1000000 in
set_option maxRecDepth 100000 in
theorem pads_c (A : Option Addr) (m c : Nat) (key : List UInt8) (w0 : World) (hb : Rs w0 (.slice A m c) 1 (bs8 key)) : Calls Try.prog 62 #[.slice A m c] w0 (PadsPost key w0) := by
  have hln := hb.len
  rw [bs8_len] at hln
  refine calls_of_WC (args := [.slice A m c]) Try.func62 rfl Try.ntmps62 rfl ?_
  show WC _ _ _ _ [(0, .slice A m c)] _
  have hS := ST.start w0 No
  refine WC.seq ?_
  refine WC.region ?_
  refine WL.alloc hS zeroT_97 rfl ?_
  intro b2 w hb2 hS
  refine WL.alloc hS zeroT_97 rfl ?_
  intro b3 w hb3 hS
  refine WL.nil ?_
  refine QN.thenW ?_
  refine WC.cut (α := Value) (fun kv => [(0, kv), (2, .pointer (some ⟨b2, 0, none⟩)), (3, .pointer (some ⟨b3, 0, none⟩))]) (fun kv w => KeyIn w0 key b2 b3 kv w) ?_ ?_
  · skip
    refine WC.seq ?_
    refine WC.region ?_
    refine WL.pv (pv_move rfl) rfl ?_
    refine WL.pv (pv_len slS_22 rfl) rfl ?_
    refine WL.pv (pv_gtr rfl rfl) rfl ?_
    refine WL.nil ?_
    refine QN.thenW ?_
    refine WC.condD rfl (fun hc8 => ?_) (fun hc8 => ?_)
    · skip
      have hk0 : key0 key = shaV key := by rw [key0, if_pos (by omega)]
      refine WC.seq ?_
      refine WC.region ?_
      refine WL.pv (pv_move rfl) rfl ?_
      refine WL.call (args := [.tmp 9]) cf_20 rfl rfl (sum_c A m c key _ (hb.no hS.fr)) ?_
      rintro _ w ⟨rfl, hF⟩
      refine ⟨_, rfl, ?_⟩
      replace hS := hS.no hF
      refine WL.alloc hS zeroT_25 rfl ?_
      intro b4 w hb4 hS
      refine WL.storeAll (k := 0) (vs := bs8 (shaV key)) hS (by rw [sizeT_25, bs8_len, shaV_len]) rfl rfl rfl bs8_one (by simp [bs8_len, shaV_len]) ?_
      intro w hS
      try simp only [List.set] at hS
      refine WL.nil ?_
      refine QN.thenW ?_
      refine WC.region ?_
      refine WL.pv (pv_sliceW arrT_25 rfl) rfl ?_
      refine WL.pv (pv_assign rfl) rfl ?_
      refine WL.nil ?_
      first
      | (have hend : KeyIn w0 key b2 b3 (.slice (some ⟨b4, 0, none⟩) 32 32) w := by
           have h1 := (hS.bk (k := 0) rfl).rs 0 32 32 1 (by omega) (by simp [maxLen]) (by simp [bs8_len, shaV_len])
           rw [List.drop_zero, List.take_of_length_le (by simp [bs8_len, shaV_len]), ← hk0] at h1
           refine ⟨h1, fun _ b hbb => ?_, hS.drop⟩
           obtain rfl : b4 = b := by simpa [Value.ownBlock] using hbb
           exact ⟨fun e => hS.apart (i := 0) (j := 2) rfl rfl (by omega) (b := b4) rfl (by rw [e]; rfl), fun e => hS.apart (i := 0) (j := 1) rfl rfl (by omega) (b := b4) rfl (by rw [e]; rfl)⟩)
      | (have hend : KeyIn w0 key b2 b3 (.slice A m c) w := by
           refine ⟨by rw [hk0]; exact hb.no hS.fr, fun h0 b hbb => ?_, hS⟩
           have := hb.ownLt (by rw [bs8_len, ← hk0]; exact h0) hbb
           omega)
      refine QN.midE ?_
      exact ⟨(_), (Sub.cons rfl (Sub.cons rfl (Sub.cons rfl Sub.nil))), hend⟩
    · skip
      have hk0 : key0 key = key := by rw [key0, if_neg (by omega)]
      refine WC.skip ?_
      first
      | (have hend : KeyIn w0 key b2 b3 (.slice (some ⟨b4, 0, none⟩) 32 32) w := by
           have h1 := (hS.bk (k := 0) rfl).rs 0 32 32 1 (by omega) (by simp [maxLen]) (by simp [bs8_len, shaV_len])
           rw [List.drop_zero, List.take_of_length_le (by simp [bs8_len, shaV_len]), ← hk0] at h1
           refine ⟨h1, fun _ b hbb => ?_, hS.drop⟩
           obtain rfl : b4 = b := by simpa [Value.ownBlock] using hbb
           exact ⟨fun e => hS.apart (i := 0) (j := 2) rfl rfl (by omega) (b := b4) rfl (by rw [e]; rfl), fun e => hS.apart (i := 0) (j := 1) rfl rfl (by omega) (b := b4) rfl (by rw [e]; rfl)⟩)
      | (have hend : KeyIn w0 key b2 b3 (.slice A m c) w := by
           refine ⟨by rw [hk0]; exact hb.no hS.fr, fun h0 b hbb => ?_, hS⟩
           have := hb.ownLt (by rw [bs8_len, ← hk0]; exact h0) hbb
           omega)
      refine QN.midE ?_
      exact ⟨(_), (Sub.cons rfl (Sub.cons rfl (Sub.cons rfl Sub.nil))), hend⟩
  · rintro kv w hR
    obtain ⟨hkv, hka, hS⟩ := hR
    obtain ⟨Ak, mk, ck, rfl, _, _, _, _⟩ := id hkv
    have hkl := hkv.len
    rw [bs8_len, Nat.mul_one] at hkl
    have hk64 := key0_len key
    obtain ⟨hkl, _, _⟩ := hkl
    subst hkl
    generalize hKK : key0 key = K0 at hkv hka hS hk64
    refine WC.seq ?_
    refine WC.region ?_
    refine WL.pv (pv_sliceW arrT_97 rfl) rfl ?_
    refine WL.pv (pv_move rfl) rfl ?_
    refine WL.copy (k := 1) hS slT_22 rfl rfl rfl hkv bs8_one (by simp) rfl ?_
    intro w hFc14 hS
    try simp only [List.set] at hS
    replace hkv := hkv.frN hFc14 (fun h0 b hbb e => (hka (by simpa [bs8_len] using h0) b hbb).1 e)
    rw [copy_pad K0 hk64] at hS
    refine WL.nil ?_
    refine QN.thenW ?_
    refine WC.seq ?_
    refine WC.region ?_
    refine WL.pv (pv_sliceW arrT_97 rfl) rfl ?_
    refine WL.pv (pv_move rfl) rfl ?_
    refine WL.copy (k := 0) hS slT_22 rfl rfl rfl hkv bs8_one (by simp) rfl ?_
    intro w hFc17 hS
    try simp only [List.set] at hS
    rw [copy_pad K0 hk64, ← xorL_zero 92 (padK K0)] at hS
    have hS' : ST w0 No w [.blk b3 97 (bs8 (xorL 92 (padK K0) 0)), .blk b2 97 (bs8 (xorL 54 (padK K0) 0))] := by rw [xorL_zero 54, ← xorL_zero 92 (padK K0), xorL_zero 92 (xorL 92 (padK K0) 0)]; exact hS
    clear hS
    have hS := hS'
    have hpl := padK_len K0 hk64
    refine WL.nil ?_
    refine QN.thenW ?_
    refine WC.seq ?_
    refine WC.seq ?_
    refine WC.region ?_
    refine WL.pv (pv_move rfl) rfl ?_
    refine WL.nil ?_
    refine QN.thenW ?_
    refine WC.block ?_
    refine WC.loop (α := Nat) (fun i => [(2, .pointer (some ⟨b2, 0, none⟩)), (3, .pointer (some ⟨b3, 0, none⟩)), (18, .int .i64 (i : Int))]) (fun i w => i ≤ 64 ∧ ST w0 No w [.blk b3 97 (bs8 (xorL 92 (padK K0) i)), .blk b2 97 (bs8 (xorL 54 (padK K0) i))]) (fun i => 64 - i) (0) (Sub.cons rfl (Sub.cons rfl (Sub.cons rfl Sub.nil))) ⟨by omega, hS⟩ ?_
    rintro i w N hN hR
    obtain ⟨hi, hS⟩ := hR
    refine WC.seq ?_
    refine WC.region ?_
    refine WL.pv (pv_lss rfl rfl) rfl ?_
    refine WL.nil ?_
    refine QN.thenW ?_
    refine WC.seq ?_
    refine WC.condD rfl (fun hc19 => ?_) (fun hc19 => ?_)
    · skip
      have hi64 : i < 64 := by omega
      refine WC.skip ?_
      refine QN.thenW ?_
      refine WC.seq ?_
      refine WC.block ?_
      refine WC.seq ?_
      refine WC.region ?_
      refine WL.pv (pv_move rfl) rfl ?_
      refine WL.pv (pv_assign rfl) rfl ?_
      refine WL.nil ?_
      refine QN.thenW ?_
      refine WC.seq ?_
      refine WC.region ?_
      refine WL.pv (pv_move rfl) rfl ?_
      refine WL.pv (pv_indexAddrA1Z arrT_97 rfl rfl rfl (by omega)) rfl ?_
      refine WL.rv (rv_load_blk (k := 1) hS oneT_5 rfl rfl (bs8_at (by rw [xorL_len]; omega))) rfl ?_
      refine WL.pv (pv_xor8 (b := 54) rfl rfl) rfl ?_
      refine WL.pv (pv_indexAddrA1Z arrT_97 rfl rfl rfl (by omega)) rfl ?_
      refine WL.store (k := 1) hS sizeT_5 rfl rfl rfl rfl (by rw [bs8_len, xorL_len]; omega) ?_
      intro w hS
      try simp only [List.set] at hS
      rw [bs8_set, xorL_at _ _ _ (by omega), xorL_set _ _ _ (by omega)] at hS
      refine WL.nil ?_
      refine QN.thenW ?_
      refine WC.region ?_
      refine WL.pv (pv_move rfl) rfl ?_
      refine WL.pv (pv_indexAddrA1Z arrT_97 rfl rfl rfl (by omega)) rfl ?_
      refine WL.rv (rv_load_blk (k := 0) hS oneT_5 rfl rfl (bs8_at (by rw [xorL_len]; omega))) rfl ?_
      refine WL.pv (pv_xor8 (b := 92) rfl rfl) rfl ?_
      refine WL.pv (pv_indexAddrA1Z arrT_97 rfl rfl rfl (by omega)) rfl ?_
      refine WL.store (k := 0) hS sizeT_5 rfl rfl rfl rfl (by rw [bs8_len, xorL_len]; omega) ?_
      intro w hS
      try simp only [List.set] at hS
      rw [bs8_set, xorL_at _ _ _ (by omega), xorL_set _ _ _ (by omega)] at hS
      refine WL.nil ?_
      refine QN.blockN ?_
      refine QN.thenW ?_
      refine WC.region ?_
      refine WL.pv (pv_add rfl rfl (by omega)) rfl ?_
      refine WL.pv (pv_move rfl) rfl ?_
      refine WL.nil ?_
      refine QN.roundE ?_
      refine ⟨(i + 1), (Sub.cons rfl (Sub.cons rfl (Sub.cons rfl Sub.nil))), ⟨by omega, hS⟩, ?_⟩
      first | omega | (dsimp only; omega)
    · skip
      obtain rfl : i = 64 := by omega
      refine WC.exit ?_
      refine QN.thenX ?_
      refine QN.thenX ?_
      refine QN.blockX ?_
      refine QN.thenW ?_
      refine WC.seq ?_
      refine WC.region ?_
      refine WL.rv (rv_load_all (k := 1) hS rfl rfl (by rw [aggT_97, bs8_len, xorL_len, hpl])) rfl ?_
      refine WL.rv (rv_load_all (k := 0) hS rfl rfl (by rw [aggT_97, bs8_len, xorL_len, hpl])) rfl ?_
      refine WL.storeAll (k := 1) (vs := bs8 (xorL 54 (padK K0) 64)) hS (by rw [sizeT_97, bs8_len, xorL_len, hpl]) rfl rfl rfl bs8_one (by simp) ?_
      intro w hS
      try simp only [List.set] at hS
      refine WL.storeAll (k := 0) (vs := bs8 (xorL 92 (padK K0) 64)) hS (by rw [sizeT_97, bs8_len, xorL_len, hpl]) rfl rfl rfl bs8_one (by simp) ?_
      intro w hS
      try simp only [List.set] at hS
      refine WL.nil ?_
      refine QN.thenW ?_
      refine WC.ret ?_
      refine QN.retKK (k := 1) (k' := 0) rfl rfl rfl hS rfl rfl (by rw [aggT_97, bs8_len, xorL_len, hpl]) (by rw [aggT_97, bs8_len, xorL_len, hpl]) ?_
      exact ⟨by rw [inP, outP, hKK], hS.fr⟩

end Go.Proofs.Ytjcebkhhgdgohaa
