/- What the functions of the tag compute. -/
import Derived.Test.YtjcebkhhgdgohaaPa
namespace Go.Proofs.Ytjcebkhhgdgohaa
open Go Go.RowKit Go.Eng
theorem aggT_97 : aggT Try.prog 97 = some 64 := by kernel_rfl
theorem arrT_97 : arrT Try.prog 97 = some (64, 1) := by kernel_rfl
theorem sizeT_97 : sizeT Try.prog 97 = some 64 := by kernel_rfl
theorem zeroT_97 : zeroT Try.prog 97 = some (List.replicate 64 (b8 0)) := by kernel_rfl

/-- A key as the tag takes it: a long one by its digest. -/
def key0 (k : List UInt8) : List UInt8 := if 64 < k.length then shaV k else k
def padK (k : List UInt8) : List UInt8 := k ++ List.replicate (64 - k.length) 0
def xorL (c : UInt8) (K : List UInt8) (i : Nat) : List UInt8 := (K.take i).map (· ^^^ c) ++ K.drop i
def inP (k : List UInt8) : List UInt8 := xorL 54 (padK (key0 k)) 64
def outP (k : List UInt8) : List UInt8 := xorL 92 (padK (key0 k)) 64
def hmacV (k t : List UInt8) : List UInt8 := shaV (outP k ++ shaV (inP k ++ t))
theorem key0_len (k : List UInt8) : (key0 k).length ≤ 64 := by
  unfold key0; split
  · rw [shaV_len]; omega
  · omega
theorem padK_len (k : List UInt8) (h : k.length ≤ 64) : (padK k).length = 64 := by simp [padK]; omega
theorem xorL_len (c : UInt8) (K : List UInt8) (i : Nat) : (xorL c K i).length = K.length := by simp [xorL]; omega
theorem xorL_zero (c : UInt8) (K : List UInt8) : xorL c K 0 = K := by simp [xorL]
theorem xorL_at (c : UInt8) (K : List UInt8) (i : Nat) (h : i < K.length) : (xorL c K i)[i]'(by rw [xorL_len]; exact h) = K[i] := by
  simp [xorL, Nat.min_eq_left (Nat.le_of_lt h)]
theorem xorL_set (c : UInt8) (K : List UInt8) (i : Nat) (h : i < K.length) : (xorL c K i).set i (K[i] ^^^ c) = xorL c K (i + 1) := by
  have hl : ((K.take i).map (· ^^^ c)).length = i := by simp; omega
  rw [xorL, List.set_append_right _ _ (by omega), hl, Nat.sub_self, List.drop_eq_getElem_cons h, List.set_cons_zero, xorL, List.take_succ_eq_append_getElem h, List.map_append, List.append_assoc]
  rfl
theorem inP_len (k : List UInt8) : (inP k).length = 64 := by rw [inP, xorL_len, padK_len _ (key0_len k)]
theorem outP_len (k : List UInt8) : (outP k).length = 64 := by rw [outP, xorL_len, padK_len _ (key0_len k)]
theorem copy_pad (k : List UInt8) (h : k.length ≤ 64) : ((List.replicate 64 (b8 0)).take 0 ++ (bs8 k).take (min k.length 64) ++ (List.replicate 64 (b8 0)).drop (0 + min k.length 64)) = bs8 (padK k) := by
  rw [Nat.min_eq_left h, Nat.zero_add, List.take_of_length_le (l := bs8 k) (by rw [bs8_len]; omega)]
  rw [List.drop_replicate, padK, bs8_app, ← bs8_rep]
  rfl
def KeyIn (w0 : World) (key : List UInt8) (b2 b3 : Nat) (kv : Value) (w : World) : Prop :=
  Rs w kv 1 (bs8 (key0 key)) ∧ (0 < (key0 key).length → ∀ b, kv.ownBlock = some b → b ≠ b2 ∧ b ≠ b3) ∧ ST w0 No w [.blk b3 97 (List.replicate 64 (b8 0)), .blk b2 97 (List.replicate 64 (b8 0))]
def PadsPost (k : List UInt8) (w0 : World) (e : Ending) (w : World) : Prop := e = .returned (.tuple #[.agg (bs8 (inP k)).toArray, .agg (bs8 (outP k)).toArray]) ∧ Fr No w0 w

set_option maxHeartbeats 1000000 in
set_option maxRecDepth 100000 in
theorem pads_c (A : Option Addr) (m c : Nat) (key : List UInt8) (w0 : World) (hb : Rs w0 (.slice A m c) 1 (bs8 key)) : Calls Try.prog 62 #[.slice A m c] w0 (PadsPost key w0) := by
  have hln := hb.len
  rw [bs8_len] at hln
  refine calls_of_WC (args := [.slice A m c]) Try.func62 rfl Try.ntmps62 rfl ?_
  show WC _ _ _ _ [(0, .slice A m c)] _
  have hS := ST.start w0 No
  refine WC.seq ?_
  refine WC.region ?_
  refine WL.alloc hS zeroT_97 rfl ?_
  intro b2 w hb2 hS
  refine WL.alloc hS zeroT_97 rfl ?_
  intro b3 w hb3 hS
  refine WL.nil ?_
  refine QN.thenW ?_
  refine WC.cut (α := Value) (fun kv => [(0, kv), (2, .pointer (some ⟨b2, 0, none⟩)), (3, .pointer (some ⟨b3, 0, none⟩))]) (fun kv w => KeyIn w0 key b2 b3 kv w) ?_ ?_
  · skip
    refine WC.seq ?_
    refine WC.region ?_
    refine WL.pv (pv_move rfl) rfl ?_
    refine WL.pv (pv_len slS_22 rfl) rfl ?_
    refine WL.pv (pv_gtr rfl rfl) rfl ?_
    refine WL.nil ?_
    refine QN.thenW ?_
    refine WC.condD rfl (fun hc8 => ?_) (fun hc8 => ?_)
    · skip
      have hk0 : key0 key = shaV key := by rw [key0, if_pos (by omega)]
      refine WC.seq ?_
      refine WC.region ?_
      refine WL.pv (pv_move rfl) rfl ?_
      refine WL.call (args := [.tmp 9]) cf_20 rfl rfl (sum_c A m c key _ (hb.no hS.fr)) ?_
      rintro _ w ⟨rfl, hF⟩
      refine ⟨_, rfl, ?_⟩
      replace hS := hS.no hF
      refine WL.alloc hS zeroT_25 rfl ?_
      intro b4 w hb4 hS
      refine WL.storeAll (k := 0) (vs := bs8 (shaV key)) hS (by rw [sizeT_25, bs8_len, shaV_len]) rfl rfl rfl bs8_one (by simp [bs8_len, shaV_len]) ?_
      intro w hS
      try simp only [List.set] at hS
      refine WL.nil ?_
      refine QN.thenW ?_
      refine WC.region ?_
      refine WL.pv (pv_sliceW arrT_25 rfl) rfl ?_
      refine WL.pv (pv_assign rfl) rfl ?_
      refine WL.nil ?_
      first
      | (have hend : KeyIn w0 key b2 b3 (.slice (some ⟨b4, 0, none⟩) 32 32) w := by
           have h1 := (hS.bk (k := 0) rfl).rs 0 32 32 1 (by omega) (by simp [maxLen]) (by simp [bs8_len, shaV_len])
           rw [List.drop_zero, List.take_of_length_le (by simp [bs8_len, shaV_len]), ← hk0] at h1
           refine ⟨h1, fun _ b hbb => ?_, hS.drop⟩
           obtain rfl : b4 = b := by simpa [Value.ownBlock] using hbb
           exact ⟨fun e => hS.apart (i := 0) (j := 2) rfl rfl (by omega) (b := b4) rfl (by rw [e]; rfl), fun e => hS.apart (i := 0) (j := 1) rfl rfl (by omega) (b := b4) rfl (by rw [e]; rfl)⟩)
      | (have hend : KeyIn w0 key b2 b3 (.slice A m c) w := by
           refine ⟨by rw [hk0]; exact hb.no hS.fr, fun h0 b hbb => ?_, hS⟩
           have := hb.ownLt (by rw [bs8_len, ← hk0]; exact h0) hbb
           omega)
      refine QN.midE ?_
      exact ⟨(_), (Sub.cons rfl (Sub.cons rfl (Sub.cons rfl Sub.nil))), hend⟩
    · skip
      have hk0 : key0 key = key := by rw [key0, if_neg (by omega)]
      refine WC.skip ?_
      first
      | (have hend : KeyIn w0 key b2 b3 (.slice (some ⟨b4, 0, none⟩) 32 32) w := by
           have h1 := (hS.bk (k := 0) rfl).rs 0 32 32 1 (by omega) (by simp [maxLen]) (by simp [bs8_len, shaV_len])
           rw [List.drop_zero, List.take_of_length_le (by simp [bs8_len, shaV_len]), ← hk0] at h1
           refine ⟨h1, fun _ b hbb => ?_, hS.drop⟩
           obtain rfl : b4 = b := by simpa [Value.ownBlock] using hbb
           exact ⟨fun e => hS.apart (i := 0) (j := 2) rfl rfl (by omega) (b := b4) rfl (by rw [e]; rfl), fun e => hS.apart (i := 0) (j := 1) rfl rfl (by omega) (b := b4) rfl (by rw [e]; rfl)⟩)
      | (have hend : KeyIn w0 key b2 b3 (.slice A m c) w := by
           refine ⟨by rw [hk0]; exact hb.no hS.fr, fun h0 b hbb => ?_, hS⟩
           have := hb.ownLt (by rw [bs8_len, ← hk0]; exact h0) hbb
           omega)
      refine QN.midE ?_
      exact ⟨(_), (Sub.cons rfl (Sub.cons rfl (Sub.cons rfl Sub.nil))), hend⟩
  · rintro kv w hR
    obtain ⟨hkv, hka, hS⟩ := hR
    obtain ⟨Ak, mk, ck, rfl, _, _, _, _⟩ := id hkv
    have hkl := hkv.len
    rw [bs8_len, Nat.mul_one] at hkl
    have hk64 := key0_len key
    obtain ⟨hkl, _, _⟩ := hkl
    subst hkl
    generalize hKK : key0 key = K0 at hkv hka hS hk64
    refine WC.seq ?_
    refine WC.region ?_
    refine WL.pv (pv_sliceW arrT_97 rfl) rfl ?_
    refine WL.pv (pv_move rfl) rfl ?_
    refine WL.copy (k := 1) hS slT_22 rfl rfl rfl hkv bs8_one (by simp) rfl ?_
    intro w hFc14 hS
    try simp only [List.set] at hS
    replace hkv := hkv.frN hFc14 (fun h0 b hbb e => (hka (by simpa [bs8_len] using h0) b hbb).1 e)
    rw [copy_pad K0 hk64] at hS
    refine WL.nil ?_
    refine QN.thenW ?_
    refine WC.seq ?_
    refine WC.region ?_
    refine WL.pv (pv_sliceW arrT_97 rfl) rfl ?_
    refine WL.pv (pv_move rfl) rfl ?_
    refine WL.copy (k := 0) hS slT_22 rfl rfl rfl hkv bs8_one (by simp) rfl ?_
    intro w hFc17 hS
    try simp only [List.set] at hS
    rw [copy_pad K0 hk64, ← xorL_zero 92 (padK K0)] at hS
    have hS' : ST w0 No w [.blk b3 97 (bs8 (xorL 92 (padK K0) 0)), .blk b2 97 (bs8 (xorL 54 (padK K0) 0))] := by rw [xorL_zero 54, ← xorL_zero 92 (padK K0), xorL_zero 92 (xorL 92 (padK K0) 0)]; exact hS
    clear hS
    have hS := hS'
    have hpl := padK_len K0 hk64
    refine WL.nil ?_
    refine QN.thenW ?_
    refine WC.seq ?_
    refine WC.seq ?_
    refine WC.region ?_
    refine WL.pv (pv_move rfl) rfl ?_
    refine WL.nil ?_
    refine QN.thenW ?_
    refine WC.block ?_
    refine WC.loop (α := Nat) (fun i => [(2, .pointer (some ⟨b2, 0, none⟩)), (3, .pointer (some ⟨b3, 0, none⟩)), (18, .int .i64 (i : Int))]) (fun i w => i ≤ 64 ∧ ST w0 No w [.blk b3 97 (bs8 (xorL 92 (padK K0) i)), .blk b2 97 (bs8 (xorL 54 (padK K0) i))]) (fun i => 64 - i) (0) (Sub.cons rfl (Sub.cons rfl (Sub.cons rfl Sub.nil))) ⟨by omega, hS⟩ ?_
    rintro i w N hN hR
    obtain ⟨hi, hS⟩ := hR
    refine WC.seq ?_
    refine WC.region ?_
    refine WL.pv (pv_lss rfl rfl) rfl ?_
    refine WL.nil ?_
    refine QN.thenW ?_
    refine WC.seq ?_
    refine WC.condD rfl (fun hc19 => ?_) (fun hc19 => ?_)
    · skip
      have hi64 : i < 64 := by omega
      refine WC.skip ?_
      refine QN.thenW ?_
      refine WC.seq ?_
      refine WC.block ?_
      refine WC.seq ?_
      refine WC.region ?_
      refine WL.pv (pv_move rfl) rfl ?_
      refine WL.pv (pv_assign rfl) rfl ?_
      refine WL.nil ?_
      refine QN.thenW ?_
      refine WC.seq ?_
      refine WC.region ?_
      refine WL.pv (pv_move rfl) rfl ?_
      refine WL.pv (pv_indexAddrA1Z arrT_97 rfl rfl rfl (by omega)) rfl ?_
      refine WL.rv (rv_load_blk (k := 1) hS oneT_5 rfl rfl (bs8_at (by rw [xorL_len]; omega))) rfl ?_
      refine WL.pv (pv_xor8 (b := 54) rfl rfl) rfl ?_
      refine WL.pv (pv_indexAddrA1Z arrT_97 rfl rfl rfl (by omega)) rfl ?_
      refine WL.store (k := 1) hS sizeT_5 rfl rfl rfl rfl (by rw [bs8_len, xorL_len]; omega) ?_
      intro w hS
      try simp only [List.set] at hS
      rw [bs8_set, xorL_at _ _ _ (by omega), xorL_set _ _ _ (by omega)] at hS
      refine WL.nil ?_
      refine QN.thenW ?_
      refine WC.region ?_
      refine WL.pv (pv_move rfl) rfl ?_
      refine WL.pv (pv_indexAddrA1Z arrT_97 rfl rfl rfl (by omega)) rfl ?_
      refine WL.rv (rv_load_blk (k := 0) hS oneT_5 rfl rfl (bs8_at (by rw [xorL_len]; omega))) rfl ?_
      refine WL.pv (pv_xor8 (b := 92) rfl rfl) rfl ?_
      refine WL.pv (pv_indexAddrA1Z arrT_97 rfl rfl rfl (by omega)) rfl ?_
      refine WL.store (k := 0) hS sizeT_5 rfl rfl rfl rfl (by rw [bs8_len, xorL_len]; omega) ?_
      intro w hS
      try simp only [List.set] at hS
      rw [bs8_set, xorL_at _ _ _ (by omega), xorL_set _ _ _ (by omega)] at hS
      refine WL.nil ?_
      refine QN.blockN ?_
      refine QN.thenW ?_
      refine WC.region ?_
      refine WL.pv (pv_add rfl rfl (by omega)) rfl ?_
      refine WL.pv (pv_move rfl) rfl ?_
      refine WL.nil ?_
      refine QN.roundE ?_
      refine ⟨(i + 1), (Sub.cons rfl (Sub.cons rfl (Sub.cons rfl Sub.nil))), ⟨by omega, hS⟩, ?_⟩
      first | omega | (dsimp only; omega)
    · skip
      obtain rfl : i = 64 := by omega
      refine WC.exit ?_
      refine QN.thenX ?_
      refine QN.thenX ?_
      refine QN.blockX ?_
      refine QN.thenW ?_
      refine WC.seq ?_
      refine WC.region ?_
      refine WL.rv (rv_load_all (k := 1) hS rfl rfl (by rw [aggT_97, bs8_len, xorL_len, hpl])) rfl ?_
      refine WL.rv (rv_load_all (k := 0) hS rfl rfl (by rw [aggT_97, bs8_len, xorL_len, hpl])) rfl ?_
      refine WL.storeAll (k := 1) (vs := bs8 (xorL 54 (padK K0) 64)) hS (by rw [sizeT_97, bs8_len, xorL_len, hpl]) rfl rfl rfl bs8_one (by simp) ?_
      intro w hS
      try simp only [List.set] at hS
      refine WL.storeAll (k := 0) (vs := bs8 (xorL 92 (padK K0) 64)) hS (by rw [sizeT_97, bs8_len, xorL_len, hpl]) rfl rfl rfl bs8_one (by simp) ?_
      intro w hS
      try simp only [List.set] at hS
      refine WL.nil ?_
      refine QN.thenW ?_
      refine WC.ret ?_
      refine QN.retKK (k := 1) (k' := 0) rfl rfl rfl hS rfl rfl (by rw [aggT_97, bs8_len, xorL_len, hpl]) (by rw [aggT_97, bs8_len, xorL_len, hpl]) ?_
      exact ⟨by rw [inP, outP, hKK], hS.fr⟩

end Go.Proofs.Ytjcebkhhgdgohaa
namespace Go.Proofs.Ytjcebkhhgdgohaa
open Go Go.RowKit Go.Eng
theorem cf_62 : callable Try.prog 62 = true := by kernel_rfl
theorem cf_63 : callable Try.prog 63 = true := by kernel_rfl

theorem Bk.rsAll {w : World} {b : Nat} {t : TypeId} {l : List UInt8} {n : Nat} (h : Bk w b t (bs8 l)) (hn : l.length = n) (hm : n ≤ maxLen) : Rs w (.slice (some ⟨b, 0, none⟩) n n) 1 (bs8 l) := by
  have := h.rs 0 n n 1 (Nat.le_refl _) hm (by rw [bs8_len]; omega)
  rwa [List.drop_zero, List.take_of_length_le (by rw [bs8_len]; omega)] at this
theorem RsL.two {w : World} {v u x : Value} {a b : List UInt8} (hv : Rs w v 1 [u, x]) (h1 : Rs w u 1 (bs8 a)) (h2 : Rs w x 1 (bs8 b)) : RsL w v [a, b] :=
  ⟨[u, x], hv, rfl, fun i hi hj => by
    rcases i with _ | _ | i
    · exact h1
    · exact h2
    · exact absurd hj (by simp)⟩

set_option maxHeartbeats 1000000 in
set_option maxRecDepth 100000 in
theorem tag_c (A B : Option Addr) (m c m2 c2 : Nat) (key text : List UInt8) (w0 : World) (hk : Rs w0 (.slice A m c) 1 (bs8 key)) (ht : Rs w0 (.slice B m2 c2) 1 (bs8 text)) : Calls Try.prog 26 #[.slice A m c, .slice B m2 c2] w0 (KeyPost (hmacV key text) w0) := by
  refine calls_of_WC (args := [.slice A m c, .slice B m2 c2]) Try.func26 rfl Try.ntmps26 rfl ?_
  show WC _ _ _ _ [(0, .slice A m c), (1, .slice B m2 c2)] _
  have hS := ST.start w0 No
  refine WC.seq ?_
  refine WC.region ?_
  refine WL.alloc hS zeroT_25 rfl ?_
  intro b4 w hb4 hS
  refine WL.nil ?_
  refine QN.thenW ?_
  refine WC.seq ?_
  refine WC.region ?_
  refine WL.pv (pv_move rfl) rfl ?_
  refine WL.call (args := [.tmp 9]) cf_62 rfl rfl (pads_c A m c key _ (hk.no hS.fr)) ?_
  rintro _ w ⟨rfl, hF⟩
  refine ⟨_, rfl, ?_⟩
  replace hS := hS.no hF
  have hil := inP_len key
  have hol := outP_len key
  refine WL.pv (pv_move rfl) rfl ?_
  refine WL.pv (pv_extract rfl rfl) rfl ?_
  refine WL.pv (pv_extract rfl rfl) rfl ?_
  refine WL.alloc hS zeroT_97 rfl ?_
  intro b5 w hb5 hS
  refine WL.alloc hS zeroT_97 rfl ?_
  intro b6 w hb6 hS
  refine WL.storeAll (k := 1) (vs := bs8 (inP key)) hS (by rw [sizeT_97, bs8_len, hil]) rfl rfl rfl bs8_one (by rw [bs8_len, hil]; simp) ?_
  intro w hS
  try simp only [List.set] at hS
  refine WL.storeAll (k := 0) (vs := bs8 (outP key)) hS (by rw [sizeT_97, bs8_len, hol]) rfl rfl rfl bs8_one (by rw [bs8_len, hol]; simp) ?_
  intro w hS
  try simp only [List.set] at hS
  refine WL.nil ?_
  refine QN.thenW ?_
  refine WC.seq ?_
  refine WC.region ?_
  refine WL.pv (pv_sliceW arrT_97 rfl) rfl ?_
  refine WL.pv (pv_move rfl) rfl ?_
  refine WL.build2 hS slT_29 zeroT_22 rfl rfl rfl rfl rfl rfl ?_
  intro b15 w hb15 hS
  refine WL.call (args := [.tmp 15]) cf_23 rfl rfl (sums_c _ 2 2 [inP key, text] _ (RsL.two ((hS.bk (k := 0) rfl).rs 0 2 2 1 (by omega) (by simp [maxLen]) (by simp)) (Bk.rsAll (hS.bk (k := 2) rfl) hil (by simp [maxLen])) (ht.no hS.fr))) ?_
  rintro _ w ⟨rfl, hF⟩
  refine ⟨_, rfl, ?_⟩
  replace hS := hS.no hF
  rw [show [inP key, text].flatten = inP key ++ text from by simp]
  refine WL.alloc hS zeroT_25 rfl ?_
  intro b7 w hb7 hS
  refine WL.storeAll (k := 0) (vs := bs8 (shaV (inP key ++ text))) hS (by rw [sizeT_25, bs8_len, shaV_len]) rfl rfl rfl bs8_one (by simp [bs8_len, shaV_len]) ?_
  intro w hS
  try simp only [List.set] at hS
  refine WL.nil ?_
  refine QN.thenW ?_
  refine WC.seq ?_
  refine WC.draw (S := fun _ => True) (fuel := 5) (listed := #[false, false, false, false, false]) mixedO rfl rfl ?_
  have hS := hS.no (Fr.drew _)
  refine WH.take (listed' := #[true, false, false, false, false]) 0 rfl (by kernel_rfl) (by kernel_rfl) (by kernel_rfl) (fun _ _ _ h => h) rfl (fun w _ => PV.rv (pv_sliceW arrT_97 rfl) w) trivial rfl ?_
  refine WH.take (listed' := #[true, true, false, false, false]) 1 rfl (by kernel_rfl) (by kernel_rfl) (by kernel_rfl) (fun _ _ _ h => h) rfl (fun w _ => PV.rv (pv_sliceW arrT_25 rfl) w) trivial rfl ?_
  refine WH.one (listed' := #[true, true, true, false, false]) 2 rfl (by kernel_rfl) rfl ?_
  refine WL.build2 hS slT_29 zeroT_22 rfl rfl rfl rfl rfl rfl ?_
  intro b19 w hb19 hS
  refine WL.nil ?_
  refine QN.held trivial ?_
  refine WH.one (listed' := #[true, true, true, true, false]) 3 rfl (by kernel_rfl) rfl ?_
  refine WL.call (args := [.tmp 19]) cf_23 rfl rfl (sums_c _ 2 2 [outP key, shaV (inP key ++ text)] _ (RsL.two ((hS.bk (k := 0) rfl).rs 0 2 2 1 (by omega) (by simp [maxLen]) (by simp)) (Bk.rsAll (hS.bk (k := 3) rfl) hol (by simp [maxLen])) (Bk.rsAll (hS.bk (k := 1) rfl) (shaV_len _) (by simp [maxLen])))) ?_
  rintro _ w ⟨rfl, hF⟩
  refine ⟨_, rfl, ?_⟩
  replace hS := hS.no hF
  rw [show [outP key, shaV (inP key ++ text)].flatten = outP key ++ shaV (inP key ++ text) from by simp]
  refine WL.nil ?_
  refine QN.held trivial ?_
  refine WH.one (listed' := #[true, true, true, true, true]) 4 rfl (by kernel_rfl) rfl ?_
  refine WL.storeAll (k := 5) (vs := bs8 (hmacV key text)) hS (by rw [sizeT_25, bs8_len, hmacV, shaV_len]) rfl rfl rfl bs8_one (by simp [bs8_len, hmacV, shaV_len]) ?_
  intro w hS
  try simp only [List.set] at hS
  refine WL.nil ?_
  refine QN.held trivial ?_
  refine WH.done (by kernel_rfl) ?_
  refine QN.thenW ?_
  refine WC.ret ?_
  refine QN.retK (k := 5) rfl rfl hS rfl (by rw [aggT_25, bs8_len, hmacV, shaV_len]) ?_
  exact ⟨rfl, hS.fr⟩

theorem hmacV_len (k t : List UInt8) : (hmacV k t).length = 32 := shaV_len _


theorem padK_step (K : List UInt8) (j : Nat) : K ++ List.replicate j 0 ++ [0] = K ++ List.replicate (j + 1) 0 := by rw [List.append_assoc, ← List.replicate_succ']
def xorT (c : UInt8) (K : List UInt8) (i : Nat) : List UInt8 := (K.take i).map (· ^^^ c)
theorem xorT_len (c : UInt8) (K : List UInt8) (i : Nat) (h : i ≤ K.length) : (xorT c K i).length = i := by simp [xorT]; omega
theorem xorT_succ (c : UInt8) (K : List UInt8) (i : Nat) (h : i < K.length) : xorT c K i ++ [K[i] ^^^ c] = xorT c K (i + 1) := by
  rw [xorT, xorT, List.take_succ_eq_append_getElem h, List.map_append]; rfl
theorem xorT_all (c : UInt8) (K : List UInt8) (h : K.length = 64) : xorT c K 64 = xorL c K 64 := by simp [xorT, xorL, h]

set_option maxHeartbeats 1000000 in
set_option maxRecDepth 100000 in
theorem refTag_c (A B : Option Addr) (m c m2 c2 : Nat) (key text : List UInt8) (w0 : World) (hk : Rs w0 (.slice A m c) 1 (bs8 key)) (ht : Rs w0 (.slice B m2 c2) 1 (bs8 text)) (hkl : key.length ≤ 9000) (htl : text.length ≤ 9000) : Calls Try.prog 27 #[.slice A m c, .slice B m2 c2] w0 (KeyPost (hmacV key text) w0) := by
  have hln := hk.len
  rw [bs8_len] at hln
  refine calls_of_WC (args := [.slice A m c, .slice B m2 c2]) Try.func27 rfl Try.ntmps27 rfl ?_
  show WC _ _ _ _ [(0, .slice A m c), (1, .slice B m2 c2)] _
  have hS := ST.start w0 No
  refine WC.seq ?_
  refine WC.region ?_
  refine WL.alloc hS zeroT_25 rfl ?_
  intro b4 w hb4 hS
  replace hS := hS.addNil 5 1
  refine WL.nil ?_
  refine QN.thenW ?_
  refine WC.seq ?_
  refine WC.region ?_
  refine WL.pv (pv_assign rfl) rfl ?_
  refine WL.nil ?_
  refine QN.thenW ?_
  refine WC.cut (α := Value) (fun kv => [(1, .slice B m2 c2), (4, .pointer (some ⟨b4, 0, none⟩)), (5, kv)]) (fun kv w => ST w0 No w [.row kv 5 1 (bs8 (key0 key)), .blk b4 25 (List.replicate 32 (b8 0))]) ?_ ?_
  · skip
    refine WC.seq ?_
    refine WC.region ?_
    refine WL.pv (pv_move rfl) rfl ?_
    refine WL.pv (pv_len slS_22 rfl) rfl ?_
    refine WL.pv (pv_gtr rfl rfl) rfl ?_
    refine WL.nil ?_
    refine QN.thenW ?_
    refine WC.condD rfl (fun hc11 => ?_) (fun hc11 => ?_)
    · skip
      have hk0 : key0 key = shaV key := by rw [key0, if_pos (by omega)]
      refine WC.region ?_
      refine WL.pv (pv_move rfl) rfl ?_
      refine WL.pv (pv_move rfl) rfl ?_
      refine WL.call (args := [.tmp 13]) cf_21 rfl rfl (refSum_c A m c key _ (hk.no hS.fr) (by omega)) ?_
      rintro _ w ⟨rfl, hF⟩
      refine ⟨_, rfl, ?_⟩
      replace hS := hS.no hF
      rw [← sha_eq]
      refine WL.call (args := [.tmp 14]) cf_63 rfl rfl (refBytes_c (shaV key) (shaV_len _) _) ?_
      rintro _ w ⟨vb, rfl, hF, hRb, _⟩
      refine ⟨_, rfl, ?_⟩
      replace hS := hS.no hF
      refine WL.append (k := 0) (N := 65536) hS slT_22 zlenT_5 (by decide) rfl rfl rfl hRb.rs bs8_one (by simp [bs8_len, shaV_len]) (by omega) (by simp [maxLen]) rfl ?_
      intro v1 w hFr16 hS
      try simp only [List.set] at hS
      rw [List.nil_append, ← hk0] at hS
      refine WL.pv (pv_assign rfl) rfl ?_
      refine WL.nil ?_
      refine QN.midE ?_
      exact ⟨(v1), (Sub.cons rfl (Sub.cons rfl (Sub.cons rfl Sub.nil))), hS⟩
    · skip
      have hk0 : key0 key = key := by rw [key0, if_neg (by omega)]
      refine WC.region ?_
      refine WL.pv (pv_move rfl) rfl ?_
      refine WL.pv (pv_move rfl) rfl ?_
      refine WL.append (k := 0) (N := 65536) hS slT_22 zlenT_5 (by decide) rfl rfl rfl (hk.no hS.fr) bs8_one (by simp [bs8_len]; omega) (by omega) (by simp [maxLen]) rfl ?_
      intro v1 w hFr19 hS
      try simp only [List.set] at hS
      rw [List.nil_append] at hS
      replace hS : ST w0 No w [.row v1 5 1 (bs8 (key0 key)), .blk b4 25 (List.replicate 32 (b8 0))] := by rw [hk0]; exact hS
      refine WL.pv (pv_assign rfl) rfl ?_
      refine WL.nil ?_
      refine QN.midE ?_
      exact ⟨(v1), (Sub.cons rfl (Sub.cons rfl (Sub.cons rfl Sub.nil))), hS⟩
  · rintro kv w hR
    have hS := hR
    have hk64 := key0_len key
    generalize hKK : key0 key = K0 at hS hk64
    refine WC.seq ?_
    refine WC.block ?_
    refine WC.loop (α := Nat × Value) (fun s => [(1, .slice B m2 c2), (4, .pointer (some ⟨b4, 0, none⟩)), (5, s.2)]) (fun s w => s.1 ≤ 64 - K0.length ∧ ST w0 No w [.row s.2 5 1 (bs8 (K0 ++ List.replicate s.1 0)), .blk b4 25 (List.replicate 32 (b8 0))]) (fun s => 64 - K0.length - s.1) ((0, kv)) (Sub.cons rfl (Sub.cons rfl (Sub.cons rfl Sub.nil))) ⟨by show 0 ≤ 64 - K0.length; omega, by rw [List.replicate_zero, List.append_nil]; exact hS⟩ ?_
    rintro ⟨j, kv2⟩ w N hN hR
    change N = 64 - K0.length - j at hN
    change j ≤ 64 - K0.length ∧ ST w0 No w [.row kv2 5 1 (bs8 (K0 ++ List.replicate j 0)), .blk b4 25 (List.replicate 32 (b8 0))] at hR
    show WC _ _ _ _ [(1, .slice B m2 c2), (4, .pointer (some ⟨b4, 0, none⟩)), (5, kv2)] _
    obtain ⟨hj, hS⟩ := hR
    obtain ⟨Ak, mk, ck, rfl, hmk, _, hmx⟩ := (hS.rw_ (k := 0) rfl).anyForm
    rw [bs8_len, List.length_append, List.length_replicate, Nat.mul_one] at hmk
    refine WC.seq ?_
    refine WC.seq ?_
    refine WC.region ?_
    refine WL.pv (pv_move rfl) rfl ?_
    refine WL.pv (pv_len slS_22 rfl) rfl ?_
    refine WL.pv (pv_lss rfl rfl) rfl ?_
    refine WL.nil ?_
    refine QN.thenW ?_
    refine WC.condD rfl (fun hc22 => ?_) (fun hc22 => ?_)
    · skip
      have hjz : j < 64 - K0.length := by omega
      refine WC.skip ?_
      refine QN.thenW ?_
      refine WC.block ?_
      refine WC.region ?_
      refine WL.pv (pv_move rfl) rfl ?_
      refine WL.build1 (v := b8 0) hS slT_22 zeroT_5 rfl rfl rfl rfl ?_
      intro b24 w hb24 hS
      refine WL.append (k := 1) (N := 65536) hS slT_22 zlenT_5 (by decide) rfl rfl rfl ((hS.bk (k := 0) rfl).rs 0 1 1 1 (by omega) (by simp [maxLen]) (by simp)) (by simp [Value.oneCell']) (by simp [bs8_len]; omega) (by omega) (by simp [maxLen]) rfl ?_
      intro v2 w hFr25 hS
      try simp only [List.set] at hS
      replace hS := hS.erase 0
      simp only [List.eraseIdx_zero, List.tail_cons] at hS
      rw [show List.take (1 * 1) (List.drop 0 [b8 0]) = [b8 0] from rfl, bs8_snoc, padK_step] at hS
      refine WL.pv (pv_assign rfl) rfl ?_
      refine WL.nil ?_
      refine QN.blockN ?_
      refine QN.roundE ?_
      refine ⟨((j + 1, v2)), (Sub.cons rfl (Sub.cons rfl (Sub.cons rfl Sub.nil))), ⟨by show j + 1 ≤ 64 - K0.length; omega, hS⟩, ?_⟩
      first | omega | (dsimp only; omega)
    · skip
      obtain rfl : j = 64 - K0.length := by omega
      obtain rfl : mk = 64 := by omega
      obtain ⟨gk, mk, ck', hek, hmk', _, _⟩ := (hS.rw_ (k := 0) rfl).form8 (by simp; omega)
      injection hek with e1 e2 e3; subst e1; subst e2; subst e3
      rw [show K0 ++ List.replicate (64 - K0.length) 0 = padK K0 from rfl] at hS
      have hpl := padK_len K0 hk64
      replace hS := (hS.addNil 5 1).addNil 5 1
      refine WC.exit ?_
      refine QN.thenX ?_
      refine QN.thenX ?_
      refine QN.blockX ?_
      refine QN.thenW ?_
      refine WC.seq ?_
      refine WC.region ?_
      refine WL.pv (pv_assign rfl) rfl ?_
      refine WL.nil ?_
      refine QN.thenW ?_
      refine WC.seq ?_
      refine WC.region ?_
      refine WL.pv (pv_assign rfl) rfl ?_
      refine WL.nil ?_
      refine QN.thenW ?_
      refine WC.seq ?_
      refine WC.seq ?_
      refine WC.region ?_
      refine WL.pv (pv_assign rfl) rfl ?_
      refine WL.nil ?_
      refine QN.thenW ?_
      refine WC.block ?_
      refine WC.loop (α := Nat × Value × Value) (fun s => [(1, .slice B m2 c2), (4, .pointer (some ⟨b4, 0, none⟩)), (5, .slice (some ⟨gk, 0, none⟩) 64 ck), (6, s.2.1), (7, s.2.2), (8, .int .i64 (s.1 : Int))]) (fun s w => s.1 ≤ 64 ∧ ST w0 No w [.row s.2.2 5 1 (bs8 (xorT 92 (padK K0) s.1)), .row s.2.1 5 1 (bs8 (xorT 54 (padK K0) s.1)), .row (.slice (some ⟨gk, 0, none⟩) 64 ck) 5 1 (bs8 (padK K0)), .blk b4 25 (List.replicate 32 (b8 0))]) (fun s => 64 - s.1) ((0, .slice none 0 0, .slice none 0 0)) (Sub.cons rfl (Sub.cons rfl (Sub.cons rfl (Sub.cons rfl (Sub.cons rfl (Sub.cons rfl Sub.nil)))))) ⟨by show 0 ≤ 64; omega, hS⟩ ?_
      rintro ⟨i, v6, v7⟩ w N hN hR
      change N = 64 - i at hN
      change i ≤ 64 ∧ ST w0 No w [.row v7 5 1 (bs8 (xorT 92 (padK K0) i)), .row v6 5 1 (bs8 (xorT 54 (padK K0) i)), .row (.slice (some ⟨gk, 0, none⟩) 64 ck) 5 1 (bs8 (padK K0)), .blk b4 25 (List.replicate 32 (b8 0))] at hR
      show WC _ _ _ _ [(1, .slice B m2 c2), (4, .pointer (some ⟨b4, 0, none⟩)), (5, .slice (some ⟨gk, 0, none⟩) 64 ck), (6, v6), (7, v7), (8, .int .i64 (i : Int))] _
      obtain ⟨hi, hS⟩ := hR
      refine WC.seq ?_
      refine WC.seq ?_
      refine WC.region ?_
      refine WL.pv (pv_move rfl) rfl ?_
      refine WL.pv (pv_lss rfl rfl) rfl ?_
      refine WL.nil ?_
      refine QN.thenW ?_
      refine WC.condD rfl (fun hc27 => ?_) (fun hc27 => ?_)
      · skip
        have hi64 : i < 64 := by omega
        have hx6 := xorT_len 54 (padK K0) i (by omega)
        have hx7 := xorT_len 92 (padK K0) i (by omega)
        refine WC.skip ?_
        refine QN.thenW ?_
        refine WC.seq ?_
        refine WC.block ?_
        refine WC.seq ?_
        refine WC.region ?_
        refine WL.pv (pv_move rfl) rfl ?_
        refine WL.pv (pv_move rfl) rfl ?_
        refine WL.pv (pv_move rfl) rfl ?_
        refine WL.pv (pv_indexAddrS1 slT_22 rfl rfl rfl (by omega)) rfl ?_
        refine WL.rv (rv_load oneT_5 rfl (hS.rcell (k := 2) rfl (bs8_at (by omega)))) rfl ?_
        refine WL.pv (pv_xor8 (b := 54) rfl rfl) rfl ?_
        refine WL.build1 hS slT_22 zeroT_5 rfl rfl rfl rfl ?_
        intro b36 w hb36 hS
        refine WL.append (k := 2) (N := 65536) hS slT_22 zlenT_5 (by decide) rfl rfl rfl ((hS.bk (k := 0) rfl).rs 0 1 1 1 (by omega) (by simp [maxLen]) (by simp)) (by simp [Value.oneCell']) (by simp [bs8_len]; omega) (by omega) (by simp [maxLen]) rfl ?_
        intro v37 w hFr37 hS
        try simp only [List.set] at hS
        replace hS := hS.erase 0
        simp only [List.eraseIdx_zero, List.tail_cons] at hS
        rw [show List.take (1 * 1) (List.drop 0 [b8 ((padK K0)[i]'(by omega) ^^^ 54)]) = [b8 ((padK K0)[i]'(by omega) ^^^ 54)] from rfl, bs8_snoc, xorT_succ _ _ _ (by omega)] at hS
        refine WL.pv (pv_assign rfl) rfl ?_
        refine WL.nil ?_
        refine QN.thenW ?_
        refine WC.region ?_
        refine WL.pv (pv_move rfl) rfl ?_
        refine WL.pv (pv_move rfl) rfl ?_
        refine WL.pv (pv_move rfl) rfl ?_
        refine WL.pv (pv_indexAddrS1 slT_22 rfl rfl rfl (by omega)) rfl ?_
        refine WL.rv (rv_load oneT_5 rfl (hS.rcell (k := 2) rfl (bs8_at (by omega)))) rfl ?_
        refine WL.pv (pv_xor8 (b := 92) rfl rfl) rfl ?_
        refine WL.build1 hS slT_22 zeroT_5 rfl rfl rfl rfl ?_
        intro b44 w hb44 hS
        refine WL.append (k := 1) (N := 65536) hS slT_22 zlenT_5 (by decide) rfl rfl rfl ((hS.bk (k := 0) rfl).rs 0 1 1 1 (by omega) (by simp [maxLen]) (by simp)) (by simp [Value.oneCell']) (by simp [bs8_len]; omega) (by omega) (by simp [maxLen]) rfl ?_
        intro v45 w hFr45 hS
        try simp only [List.set] at hS
        replace hS := hS.erase 0
        simp only [List.eraseIdx_zero, List.tail_cons] at hS
        rw [show List.take (1 * 1) (List.drop 0 [b8 ((padK K0)[i]'(by omega) ^^^ 92)]) = [b8 ((padK K0)[i]'(by omega) ^^^ 92)] from rfl, bs8_snoc, xorT_succ _ _ _ (by omega)] at hS
        refine WL.pv (pv_assign rfl) rfl ?_
        refine WL.nil ?_
        refine QN.blockN ?_
        refine QN.thenW ?_
        refine WC.region ?_
        refine WL.pv (pv_move rfl) rfl ?_
        refine WL.pv (pv_add rfl rfl (by omega)) rfl ?_
        refine WL.pv (pv_assign rfl) rfl ?_
        refine WL.nil ?_
        refine QN.roundE ?_
        refine ⟨((i + 1, v37, v45)), (Sub.cons rfl (Sub.cons rfl (Sub.cons rfl (Sub.cons rfl (Sub.cons rfl (Sub.cons rfl Sub.nil)))))), ⟨by show i + 1 ≤ 64; omega, hS⟩, ?_⟩
        first | omega | (dsimp only; omega)
      · skip
        obtain rfl : i = 64 := by omega
        rw [xorT_all 54 _ hpl, xorT_all 92 _ hpl] at hS
        replace hS : ST w0 No w [.row v7 5 1 (bs8 (outP key)), .row v6 5 1 (bs8 (inP key)), .row (.slice (some ⟨gk, 0, none⟩) 64 ck) 5 1 (bs8 (padK K0)), .blk b4 25 (List.replicate 32 (b8 0))] := by rw [outP, inP, hKK]; exact hS
        have hil := inP_len key
        have hol := outP_len key
        refine WC.exit ?_
        refine QN.thenX ?_
        refine QN.thenX ?_
        refine QN.blockX ?_
        refine QN.thenW ?_
        refine WC.seq ?_
        refine WC.region ?_
        refine WL.pv (pv_move rfl) rfl ?_
        refine WL.pv (pv_move rfl) rfl ?_
        refine WL.append (k := 1) (N := 65536) hS slT_22 zlenT_5 (by decide) rfl rfl rfl (ht.no hS.fr) bs8_one (by simp [bs8_len]; omega) (by omega) (by simp [maxLen]) rfl ?_
        intro v8 w hFr48 hS
        try simp only [List.set] at hS
        rw [← bs8_app] at hS
        obtain ⟨A8, m8, c8, rfl, _, _, _⟩ := (hS.rw_ (k := 1) rfl).anyForm
        refine WL.pv (pv_assign rfl) rfl ?_
        refine WL.nil ?_
        refine QN.thenW ?_
        refine WC.seq ?_
        refine WC.region ?_
        refine WL.pv (pv_move rfl) rfl ?_
        refine WL.pv (pv_move rfl) rfl ?_
        refine WL.call (args := [.tmp 50]) cf_21 rfl rfl (refSum_c _ _ _ _ _ (hS.rw_ (k := 1) rfl).rs (by simp; omega)) ?_
        rintro _ w ⟨rfl, hF⟩
        refine ⟨_, rfl, ?_⟩
        replace hS := hS.no hF
        rw [← sha_eq]
        refine WL.call (args := [.tmp 51]) cf_63 rfl rfl (refBytes_c _ (shaV_len _) _) ?_
        rintro _ w ⟨vb, rfl, hF, hRb, _⟩
        refine ⟨_, rfl, ?_⟩
        replace hS := hS.no hF
        refine WL.append (k := 0) (N := 65536) hS slT_22 zlenT_5 (by decide) rfl rfl rfl hRb.rs bs8_one (by simp [bs8_len, shaV_len]; omega) (by omega) (by simp [maxLen]) rfl ?_
        intro v9 w hFr53 hS
        try simp only [List.set] at hS
        rw [← bs8_app] at hS
        obtain ⟨A9, m9, c9, rfl, _, _, _⟩ := (hS.rw_ (k := 0) rfl).anyForm
        refine WL.pv (pv_assign rfl) rfl ?_
        refine WL.nil ?_
        refine QN.thenW ?_
        refine WC.seq ?_
        refine WC.region ?_
        refine WL.pv (pv_move rfl) rfl ?_
        refine WL.call (args := [.tmp 54]) cf_21 rfl rfl (refSum_c _ _ _ _ _ (hS.rw_ (k := 0) rfl).rs (by simp [shaV_len]; omega)) ?_
        rintro _ w ⟨rfl, hF⟩
        refine ⟨_, rfl, ?_⟩
        replace hS := hS.no hF
        rw [← sha_eq]
        refine WL.storeAll (k := 3) (vs := bs8 (hmacV key text)) hS (by rw [sizeT_25, bs8_len, hmacV_len]) rfl rfl rfl bs8_one (by simp [bs8_len, hmacV_len]) ?_
        intro w hS
        try simp only [List.set] at hS
        refine WL.nil ?_
        refine QN.thenW ?_
        refine WC.ret ?_
        refine QN.retK (k := 3) rfl rfl hS rfl (by rw [aggT_25, bs8_len, hmacV_len]) ?_
        exact ⟨rfl, hS.fr⟩

end Go.Proofs.Ytjcebkhhgdgohaa
namespace Go.Proofs.Ytjcebkhhgdgohaa
open Go Go.RowKit Go.Eng
theorem cf_26 : callable Try.prog 26 = true := by kernel_rfl

def keyW : List UInt8 := [74, 101, 102, 101]
def textW : List UInt8 := [119, 104, 97, 116, 32, 100, 111, 32, 121, 97, 32, 119, 97, 110, 116, 32, 102, 111, 114, 32, 110, 111, 116, 104, 105, 110, 103, 63]
theorem jefe1 : refV (inP keyW ++ textW) = [162, 228, 133, 134, 61, 39, 249, 216, 100, 172, 141, 128, 36, 50, 161, 237, 71, 125, 140, 76, 111, 52, 157, 22, 212, 231, 233, 23, 198, 41, 202, 215] := by decide +kernel
theorem jefe2 : (refV (outP keyW ++ [162, 228, 133, 134, 61, 39, 249, 216, 100, 172, 141, 128, 36, 50, 161, 237, 71, 125, 140, 76, 111, 52, 157, 22, 212, 231, 233, 23, 198, 41, 202, 215])).take 4 = [91, 220, 193, 70] := by decide +kernel
theorem jefe : ∃ tl, hmacV keyW textW = 91 :: 220 :: 193 :: 70 :: tl := by
  rw [hmacV, sha_eq, sha_eq, jefe1]
  have e := List.take_append_drop 4 (refV (outP keyW ++ [162, 228, 133, 134, 61, 39, 249, 216, 100, 172, 141, 128, 36, 50, 161, 237, 71, 125, 140, 76, 111, 52, 157, 22, 212, 231, 233, 23, 198, 41, 202, 215]))
  rw [jefe2] at e
  exact ⟨_, e.symm⟩

set_option maxRecDepth 100000 in
theorem wakesH_c (w0 : World) : Calls Try.prog 25 #[] w0 fun e w => e = .returned (.bool true) ∧ Fr No w0 w := by
  refine calls_of_WC (args := []) Try.func25 rfl Try.ntmps25 rfl ?_
  show WC _ _ _ _ [] _
  have hS := ST.start w0 No
  refine WC.seq ?_
  refine WC.region ?_
  refine WL.pv (pv_assign rfl) rfl ?_
  refine WL.nil ?_
  refine QN.thenW ?_
  refine WC.seq ?_
  refine WC.region ?_
  refine WL.buildV (parts := [(0, .const (.int .u8 74)), (1, .const (.int .u8 101)), (2, .const (.int .u8 102)), (3, .const (.int .u8 101))]) (vs := [b8 74, b8 101, b8 102, b8 101]) hS slT_22 zeroT_5 (by simp) rfl rfl rfl (by simp [Value.cells]) rfl rfl ?_
  intro b2 w hb2 hS
  change ST w0 No w [.blk b2 5 (bs8 keyW)] at hS
  refine WL.convS (k := 0) hS Try.underlying22 Try.underlying5 rfl rfl rfl ?_
  intro w hS
  refine WL.buildV (parts := [(0, .const (.int .u8 119)), (1, .const (.int .u8 104)), (2, .const (.int .u8 97)), (3, .const (.int .u8 116)), (4, .const (.int .u8 32)), (5, .const (.int .u8 100)), (6, .const (.int .u8 111)), (7, .const (.int .u8 32)), (8, .const (.int .u8 121)), (9, .const (.int .u8 97)), (10, .const (.int .u8 32)), (11, .const (.int .u8 119)), (12, .const (.int .u8 97)), (13, .const (.int .u8 110)), (14, .const (.int .u8 116)), (15, .const (.int .u8 32)), (16, .const (.int .u8 102)), (17, .const (.int .u8 111)), (18, .const (.int .u8 114)), (19, .const (.int .u8 32)), (20, .const (.int .u8 110)), (21, .const (.int .u8 111)), (22, .const (.int .u8 116)), (23, .const (.int .u8 104)), (24, .const (.int .u8 105)), (25, .const (.int .u8 110)), (26, .const (.int .u8 103)), (27, .const (.int .u8 63))]) (vs := [b8 119, b8 104, b8 97, b8 116, b8 32, b8 100, b8 111, b8 32, b8 121, b8 97, b8 32, b8 119, b8 97, b8 110, b8 116, b8 32, b8 102, b8 111, b8 114, b8 32, b8 110, b8 111, b8 116, b8 104, b8 105, b8 110, b8 103, b8 63]) hS slT_22 zeroT_5 (by simp) rfl rfl rfl (by simp [Value.cells]) rfl rfl ?_
  intro b4 w hb4 hS
  change ST w0 No w [.blk b4 5 (bs8 textW), .blk b2 5 (bs8 keyW)] at hS
  refine WL.convS (k := 0) hS Try.underlying22 Try.underlying5 rfl rfl rfl ?_
  intro w hS
  refine WL.call (args := [.tmp 3, .tmp 5]) cf_26 rfl rfl (tag_c _ _ 4 4 28 28 keyW textW _ (Bk.rsAll (hS.bk (k := 1) rfl) rfl (by simp [maxLen])) (Bk.rsAll (hS.bk (k := 0) rfl) rfl (by simp [maxLen]))) ?_
  rintro _ w ⟨rfl, hF⟩
  refine ⟨_, rfl, ?_⟩
  replace hS := hS.no hF
  obtain ⟨tl, htl⟩ := jefe
  have hlen := hmacV_len keyW textW
  rw [htl]
  rw [htl] at hlen
  refine WL.alloc hS zeroT_25 rfl ?_
  intro b1 w hb1 hS
  refine WL.storeAll (k := 0) (vs := bs8 (91 :: 220 :: 193 :: 70 :: tl)) hS (by rw [sizeT_25, bs8_len, hlen]) rfl rfl rfl bs8_one (by rw [bs8_len, hlen]; simp) ?_
  intro w hS
  try simp only [List.set] at hS
  refine WL.nil ?_
  refine QN.thenW ?_
  refine WC.seq ?_
  refine WC.region ?_
  refine WL.pv (pv_indexAddrA1Z (j := 0) arrT_25 rfl rfl rfl (by omega)) rfl ?_
  refine WL.rv (rv_load_blk (k := 0) hS oneT_5 rfl rfl rfl) rfl ?_
  refine WL.pv (pv_eql rfl rfl) rfl ?_
  refine WL.pv (pv_move rfl) rfl ?_
  refine WL.guardT rfl rfl rfl (lkT rfl (by decide)) ?_
  refine WL.pv (pv_indexAddrA1Z (j := 1) arrT_25 rfl rfl rfl (by omega)) rfl ?_
  refine WL.guardT rfl rfl rfl (lkT rfl (by decide)) ?_
  refine WL.rv (rv_load_blk (k := 0) hS oneT_5 rfl rfl rfl) rfl ?_
  refine WL.guardT rfl rfl rfl (lkT rfl (by decide)) ?_
  refine WL.pv (pv_eql rfl rfl) rfl ?_
  refine WL.pv (pv_pick1 (lkT rfl (by decide)) rfl) rfl ?_
  refine WL.pv (pv_move rfl) rfl ?_
  refine WL.guardT rfl rfl rfl (lkT rfl (by decide)) ?_
  refine WL.pv (pv_indexAddrA1Z (j := 2) arrT_25 rfl rfl rfl (by omega)) rfl ?_
  refine WL.guardT rfl rfl rfl (lkT rfl (by decide)) ?_
  refine WL.rv (rv_load_blk (k := 0) hS oneT_5 rfl rfl rfl) rfl ?_
  refine WL.guardT rfl rfl rfl (lkT rfl (by decide)) ?_
  refine WL.pv (pv_eql rfl rfl) rfl ?_
  refine WL.pv (pv_pick1 (lkT rfl (by decide)) rfl) rfl ?_
  refine WL.pv (pv_move rfl) rfl ?_
  refine WL.guardT rfl rfl rfl (lkT rfl (by decide)) ?_
  refine WL.pv (pv_indexAddrA1Z (j := 3) arrT_25 rfl rfl rfl (by omega)) rfl ?_
  refine WL.guardT rfl rfl rfl (lkT rfl (by decide)) ?_
  refine WL.rv (rv_load_blk (k := 0) hS oneT_5 rfl rfl rfl) rfl ?_
  refine WL.guardT rfl rfl rfl (lkT rfl (by decide)) ?_
  refine WL.pv (pv_eql rfl rfl) rfl ?_
  refine WL.pv (pv_pick1 (lkT rfl (by decide)) rfl) rfl ?_
  refine WL.pv (pv_assign rfl) rfl ?_
  refine WL.nil ?_
  refine QN.thenW ?_
  refine WC.ret ?_
  refine QN.ret1 rfl rfl ?_
  exact ⟨rfl, hS.fr⟩

end Go.Proofs.Ytjcebkhhgdgohaa
namespace Go.Proofs.Ytjcebkhhgdgohaa
open Go Go.RowKit Go.Eng
theorem cf_25 : callable Try.prog 25 = true := by kernel_rfl
theorem cf_27 : callable Try.prog 27 = true := by kernel_rfl
set_option maxRecDepth 100000 in
theorem hmacTag_c (A B : Option Addr) (m c m2 c2 : Nat) (key text : List UInt8) (w0 : World) (hk : Rs w0 (.slice A m c) 1 (bs8 key)) (ht : Rs w0 (.slice B m2 c2) 1 (bs8 text)) : Calls Try.prog 7 #[.slice A m c, .slice B m2 c2] w0 fun e w => e = .returned (.bool true) ∧ Fr No w0 w := by
  have hln := hk.len
  rw [bs8_len] at hln
  have hln2 := ht.len
  rw [bs8_len] at hln2
  have hmx : m ≤ 9223372036854775807 := by have := hln; simp only [maxLen] at this; omega
  have hmx2 : m2 ≤ 9223372036854775807 := by have := hln2; simp only [maxLen] at this; omega
  refine calls_of_WC (args := [.slice A m c, .slice B m2 c2]) Try.func7 rfl Try.ntmps7 rfl ?_
  show WC _ _ _ _ [(0, .slice A m c), (1, .slice B m2 c2)] _
  have hS := ST.start w0 No
  refine WC.seq ?_
  refine WC.region ?_
  refine WL.pv (pv_assign rfl) rfl ?_
  refine WL.nil ?_
  refine QN.thenW ?_
  refine WC.seq ?_
  refine WC.seq ?_
  refine WC.region ?_
  refine WL.call (args := []) cf_25 rfl rfl (wakesH_c _) ?_
  rintro _ w ⟨rfl, hF⟩
  refine ⟨_, rfl, ?_⟩
  replace hS := hS.no hF
  refine WL.pv (pv_not rfl) rfl ?_
  refine WL.nil ?_
  refine QN.thenW ?_
  refine WC.condF rfl rfl ?_
  refine WC.skip ?_
  refine QN.thenW ?_
  refine WC.seq ?_
  refine WC.seq ?_
  by_cases h1000 : m ≤ 1000
  · skip
    refine WC.region ?_
    refine WL.pv (pv_move rfl) rfl ?_
    refine WL.pv (pv_len slS_22 rfl) rfl ?_
    refine WL.pv (pv_gtr rfl rfl) rfl ?_
    refine WL.pv (pv_move rfl) rfl ?_
    refine WL.guardT rfl rfl rfl (lkF rfl (by omega)) ?_
    refine WL.pv (pv_move rfl) rfl ?_
    refine WL.guardT rfl rfl rfl (lkF rfl (by omega)) ?_
    refine WL.pv (pv_len slS_22 rfl) rfl ?_
    refine WL.guardT rfl rfl rfl (lkF rfl (by omega)) ?_
    refine WL.pv (pv_gtr rfl rfl) rfl ?_
    refine WL.pv (pv_pick0 (lkF rfl (by omega)) rfl) rfl ?_
    refine WL.nil ?_
    refine QN.thenW ?_
    refine WC.condD rfl (fun hc16 => ?_) (fun hc16 => ?_)
    · skip
      refine WC.seq ?_
      refine WC.region ?_
      refine WL.pv (pv_assign rfl) rfl ?_
      refine WL.nil ?_
      refine QN.thenW ?_
      refine WC.ret ?_
      refine QN.thenR ?_
      refine QN.ret1 rfl rfl ?_
      exact ⟨by simp, hS.fr⟩
    · skip
      refine WC.skip ?_
      refine QN.thenW ?_
      refine WC.seq ?_
      refine WC.region ?_
      refine WL.build0 hS slT_22 rfl ?_
      intro r5 w hr5 hS
      refine WL.pv (pv_move rfl) rfl ?_
      refine WL.append (k := 0) (N := 65536) hS slT_22 zlenT_5 (by decide) rfl rfl rfl (hk.no hS.fr) bs8_one (by simp [bs8_len]; omega) (by omega) (by simp [maxLen]) rfl ?_
      intro v1 w hFr19 hS
      try simp only [List.set] at hS
      rw [List.nil_append] at hS
      obtain ⟨A1, m1, c1, rfl, _, _, _⟩ := (hS.rw_ (k := 0) rfl).anyForm
      refine WL.build0 hS slT_22 rfl ?_
      intro r6 w hr6 hS
      refine WL.pv (pv_move rfl) rfl ?_
      refine WL.append (k := 0) (N := 65536) hS slT_22 zlenT_5 (by decide) rfl rfl rfl (ht.no hS.fr) bs8_one (by simp [bs8_len]; omega) (by omega) (by simp [maxLen]) rfl ?_
      intro v2 w hFr22 hS
      try simp only [List.set] at hS
      rw [List.nil_append] at hS
      obtain ⟨A3, m3, c3, rfl, _, _, _⟩ := (hS.rw_ (k := 0) rfl).anyForm
      refine WL.pv (pv_assign rfl) rfl ?_
      refine WL.pv (pv_assign rfl) rfl ?_
      refine WL.nil ?_
      refine QN.thenW ?_
      refine WC.seq ?_
      refine WC.region ?_
      refine WL.pv (pv_move rfl) rfl ?_
      refine WL.pv (pv_move rfl) rfl ?_
      refine WL.call (args := [.tmp 23, .tmp 24]) cf_26 rfl rfl (tag_c _ _ _ _ _ _ key text _ (hS.rw_ (k := 1) rfl).rs (hS.rw_ (k := 0) rfl).rs) ?_
      rintro _ w ⟨rfl, hF⟩
      refine ⟨_, rfl, ?_⟩
      replace hS := hS.no hF
      refine WL.pv (pv_move rfl) rfl ?_
      refine WL.pv (pv_move rfl) rfl ?_
      refine WL.call (args := [.tmp 26, .tmp 27]) cf_27 rfl rfl (refTag_c _ _ _ _ _ _ key text _ (hk.no hS.fr) (ht.no hS.fr) (by omega) (by omega)) ?_
      rintro _ w ⟨rfl, hF⟩
      refine ⟨_, rfl, ?_⟩
      replace hS := hS.no hF
      refine WL.pv (pv_eqlA8 Try.underlying25 Try.underlying5 cellsT_5 eqgT_25 rfl rfl (hmacV_len _ _) (hmacV_len _ _)) rfl ?_
      refine WL.pv (pv_move rfl) rfl ?_
      refine WL.guardT rfl rfl rfl (lkT rfl (by rfl)) ?_
      refine WL.pv (pv_move rfl) rfl ?_
      refine WL.guardT rfl rfl rfl (lkT rfl (by rfl)) ?_
      refine WL.pv (pv_move rfl) rfl ?_
      refine WL.guardT rfl rfl rfl (lkT rfl (by rfl)) ?_
      refine WL.call (args := [.tmp 31, .tmp 32]) cf_22 rfl rfl (same_c _ _ _ _ _ _ key key _ (hS.rw_ (k := 1) rfl).rs (hk.no hS.fr)) ?_
      rintro _ w ⟨rfl, hF⟩
      refine ⟨_, rfl, ?_⟩
      replace hS := hS.no hF
      refine WL.pv (pv_pick1 (lkT rfl (by rfl)) rfl) rfl ?_
      refine WL.pv (pv_move rfl) rfl ?_
      refine WL.guardT rfl rfl rfl (lkT rfl (by rfl)) ?_
      refine WL.pv (pv_move rfl) rfl ?_
      refine WL.guardT rfl rfl rfl (lkT rfl (by rfl)) ?_
      refine WL.pv (pv_move rfl) rfl ?_
      refine WL.guardT rfl rfl rfl (lkT rfl (by rfl)) ?_
      refine WL.call (args := [.tmp 36, .tmp 37]) cf_22 rfl rfl (same_c _ _ _ _ _ _ text text _ (hS.rw_ (k := 0) rfl).rs (ht.no hS.fr)) ?_
      rintro _ w ⟨rfl, hF⟩
      refine ⟨_, rfl, ?_⟩
      replace hS := hS.no hF
      refine WL.pv (pv_pick1 (lkT rfl (by rfl)) rfl) rfl ?_
      refine WL.pv (pv_assign rfl) rfl ?_
      refine WL.nil ?_
      refine QN.thenW ?_
      refine WC.ret ?_
      refine QN.ret1 rfl rfl ?_
      exact ⟨by simp, hS.fr⟩
  · skip
    refine WC.region ?_
    refine WL.pv (pv_move rfl) rfl ?_
    refine WL.pv (pv_len slS_22 rfl) rfl ?_
    refine WL.pv (pv_gtr rfl rfl) rfl ?_
    refine WL.pv (pv_move rfl) rfl ?_
    refine WL.guardF rfl rfl rfl (lkT rfl (by omega)) rfl rfl ?_
    refine WL.guardF rfl rfl rfl (lkT rfl (by omega)) rfl rfl ?_
    refine WL.guardF rfl rfl rfl (lkT rfl (by omega)) rfl rfl ?_
    refine WL.pv (pv_pick1 (lkT rfl (by omega)) rfl) rfl ?_
    refine WL.nil ?_
    refine QN.thenW ?_
    refine WC.condT rfl rfl ?_
    refine WC.seq ?_
    refine WC.region ?_
    refine WL.pv (pv_assign rfl) rfl ?_
    refine WL.nil ?_
    refine QN.thenW ?_
    refine WC.ret ?_
    refine QN.thenR ?_
    refine QN.ret1 rfl rfl ?_
    exact ⟨by simp, hS.fr⟩

end Go.Proofs.Ytjcebkhhgdgohaa
