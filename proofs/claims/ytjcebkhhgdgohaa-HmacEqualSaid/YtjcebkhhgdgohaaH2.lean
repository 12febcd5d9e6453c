/- What a few functions of the program compute, part H2. -/
import Derived.Test.YtjcebkhhgdgohaaH1
namespace Go.Proofs.Ytjcebkhhgdgohaa
open Go Go.RowKit Go.Eng
theorem cf_62 : callable Try.prog 62 = true := by kernel_rfl
theorem cf_63 : callable Try.prog 63 = true := by kernel_rfl

theorem Bk.rsAll {w : World} {b : Nat} {t : TypeId} {l : List UInt8} {n : Nat} (h : Bk w b t (bs8 l)) (hn : l.length = n) (hm : n ≤ maxLen) : Rs w (.slice (some ⟨b, 0, none⟩) n n) 1 (bs8 l) := by
  have := h.rs 0 n n 1 (Nat.le_refl _) hm (by rw [bs8_len]; omega)
  rwa [List.drop_zero, List.take_of_length_le (by rw [bs8_len]; omega)] at this
theorem RsL.two {w : World} {v u x : Value} {a b : List UInt8} (hv : Rs w v 1 [u, x]) (h1 : Rs w u 1 (bs8 a)) (h2 : Rs w x 1 (bs8 b)) : RsL w v [a, b] :=
  ⟨[u, x], hv, rfl, fun i hi hj => by
    rcases i with _ | _ | i
    · exact h1
    · exact h2
    · exact absurd hj (by simp)⟩

set_option maxHeartbeats 1000000 in
set_option maxRecDepth 100000 in
theorem tag_c (A B : Option Addr) (m c m2 c2 : Nat) (key text : List UInt8) (w0 : World) (hk : Rs w0 (.slice A m c) 1 (bs8 key)) (ht : Rs w0 (.slice B m2 c2) 1 (bs8 text)) : Calls Try.prog 26 #[.slice A m c, .slice B m2 c2] w0 (KeyPost (hmacV key text) w0) := by
  refine calls_of_WC (args := [.slice A m c, .slice B m2 c2]) Try.func26 rfl Try.ntmps26 rfl ?_
  show WC _ _ _ _ [(0, .slice A m c), (1, .slice B m2 c2)] _
  have hS := ST.start w0 No
  refine WC.seq ?_
  refine WC.region ?_
  refine WL.alloc hS zeroT_25 rfl ?_
  intro b4 w hb4 hS
  refine WL.nil ?_
  refine QN.thenW ?_
  refine WC.seq ?_
  refine WC.region ?_
  refine WL.pv (pv_move rfl) rfl ?_
  refine WL.call (args := [.tmp 9]) cf_62 rfl rfl (pads_c A m c key _ (hk.no hS.fr)) ?_
  rintro _ w ⟨rfl, hF⟩
  refine ⟨_, rfl, ?_⟩
  replace hS := hS.no hF
  have hil := inP_len key
  have hol := outP_len key
  refine WL.pv (pv_move rfl) rfl ?_
  refine WL.pv (pv_extract rfl rfl) rfl ?_
  refine WL.pv (pv_extract rfl rfl) rfl ?_
  refine WL.alloc hS zeroT_97 rfl ?_
  intro b5 w hb5 hS
  refine WL.alloc hS zeroT_97 rfl ?_
  intro b6 w hb6 hS
  refine WL.storeAll (k := 1) (vs := bs8 (inP key)) hS (by rw [sizeT_97, bs8_len, hil]) rfl rfl rfl bs8_one (by rw [bs8_len, hil]; simp) ?_
  intro w hS
  try simp only [List.set] at hS
  refine WL.storeAll (k := 0) (vs := bs8 (outP key)) hS (by rw [sizeT_97, bs8_len, hol]) rfl rfl rfl bs8_one (by rw [bs8_len, hol]; simp) ?_
  intro w hS
  try simp only [List.set] at hS
  refine WL.nil ?_
  refine QN.thenW ?_
  refine WC.seq ?_
  refine WC.region ?_
  refine WL.pv (pv_sliceW arrT_97 rfl) rfl ?_
  refine WL.pv (pv_move rfl) rfl ?_
  refine WL.build2 hS slT_29 zeroT_22 rfl rfl rfl rfl rfl rfl ?_
  intro b15 w hb15 hS
  refine WL.call (args := [.tmp 15]) cf_23 rfl rfl (sums_c _ 2 2 [inP key, text] _ (RsL.two ((hS.bk (k := 0) rfl).rs 0 2 2 1 (by omega) (by simp [maxLen]) (by simp)) (Bk.rsAll (hS.bk (k := 2) rfl) hil (by simp [maxLen])) (ht.no hS.fr))) ?_
  rintro _ w ⟨rfl, hF⟩
  refine ⟨_, rfl, ?_⟩
  replace hS := hS.no hF
  rw [show [inP key, text].flatten = inP key ++ text from by simp]
  refine WL.alloc hS zeroT_25 rfl ?_
  intro b7 w hb7 hS
  refine WL.storeAll (k := 0) (vs := bs8 (shaV (inP key ++ text))) hS (by rw [sizeT_25, bs8_len, shaV_len]) rfl rfl rfl bs8_one (by simp [bs8_len, shaV_len]) ?_
  intro w hS
  try simp only [List.set] at hS
  refine WL.nil ?_
  refine QN.thenW ?_
  refine WC.seq ?_
  refine WC.draw (S := fun _ => True) (fuel := 5) (listed := #[false, false, false, false, false]) mixedO rfl rfl ?_
  have hS := hS.no (Fr.drew _)
  refine WH.take (listed' := #[true, false, false, false, false]) 0 rfl (by kernel_rfl) (by kernel_rfl) (by kernel_rfl) (fun _ _ _ h => h) rfl (fun w _ => PV.rv (pv_sliceW arrT_97 rfl) w) trivial rfl ?_
  refine WH.take (listed' := #[true, true, false, false, false]) 1 rfl (by kernel_rfl) (by kernel_rfl) (by kernel_rfl) (fun _ _ _ h => h) rfl (fun w _ => PV.rv (pv_sliceW arrT_25 rfl) w) trivial rfl ?_
  refine WH.one (listed' := #[true, true, true, false, false]) 2 rfl (by kernel_rfl) rfl ?_
  refine WL.build2 hS slT_29 zeroT_22 rfl rfl rfl rfl rfl rfl ?_
  intro b19 w hb19 hS
  refine WL.nil ?_
  refine QN.held trivial ?_
  refine WH.one (listed' := #[true, true, true, true, false]) 3 rfl (by kernel_rfl) rfl ?_
  refine WL.call (args := [.tmp 19]) cf_23 rfl rfl (sums_c _ 2 2 [outP key, shaV (inP key ++ text)] _ (RsL.two ((hS.bk (k := 0) rfl).rs 0 2 2 1 (by omega) (by simp [maxLen]) (by simp)) (Bk.rsAll (hS.bk (k := 3) rfl) hol (by simp [maxLen])) (Bk.rsAll (hS.bk (k := 1) rfl) (shaV_len _) (by simp [maxLen])))) ?_
  rintro _ w ⟨rfl, hF⟩
  refine ⟨_, rfl, ?_⟩
  replace hS := hS.no hF
  rw [show [outP key, shaV (inP key ++ text)].flatten = outP key ++ shaV (inP key ++ text) from by simp]
  refine WL.nil ?_
  refine QN.held trivial ?_
  refine WH.one (listed' := #[true, true, true, true, true]) 4 rfl (by kernel_rfl) rfl ?_
  refine WL.storeAll (k := 5) (vs := bs8 (hmacV key text)) hS (by rw [sizeT_25, bs8_len, hmacV, shaV_len]) rfl rfl rfl bs8_one (by simp [bs8_len, hmacV, shaV_len]) ?_
  intro w hS
  try simp only [List.set] at hS
  refine WL.nil ?_
  refine QN.held trivial ?_
  refine WH.done (by kernel_rfl) ?_
  refine QN.thenW ?_
  refine WC.ret ?_
  refine QN.retK (k := 5) rfl rfl hS rfl (by rw [aggT_25, bs8_len, hmacV, shaV_len]) ?_
  exact ⟨rfl, hS.fr⟩

theorem hmacV_len (k t : List UInt8) : (hmacV k t).length = 32 := shaV_len _


theorem padK_step (K : List UInt8) (j : Nat) : K ++ List.replicate j 0 ++ [0] = K ++ List.replicate (j + 1) 0 := by rw [List.append_assoc, ← List.replicate_succ']
def xorT (c : UInt8) (K : List UInt8) (i : Nat) : List UInt8 := (K.take i).map (· ^^^ c)
theorem xorT_len (c : UInt8) (K : List UInt8) (i : Nat) (h : i ≤ K.length) : (xorT c K i).length = i := by simp [xorT]; omega
theorem xorT_succ (c : UInt8) (K : List UInt8) (i : Nat) (h : i < K.length) : xorT c K i ++ [K[i] ^^^ c] = xorT c K (i + 1) := by
  rw [xorT, xorT, List.take_succ_eq_append_getElem h, List.map_append]; rfl
theorem xorT_all (c : UInt8) (K : List UInt8) (h : K.length = 64) : xorT c K 64 = xorL c K 64 := by simp [xorT, xorL, h]

set_option maxHeartbeats 1000000 in
set_option maxRecDepth 100000 in
theorem refTag_c (A B : Option Addr) (m c m2 c2 : Nat) (key text : List UInt8) (w0 : World) (hk : Rs w0 (.slice A m c) 1 (bs8 key)) (ht : Rs w0 (.slice B m2 c2) 1 (bs8 text)) (hkl : key.length ≤ 9000) (htl : text.length ≤ 9000) : Calls Try.prog 27 #[.slice A m c, .slice B m2 c2] w0 (KeyPost (hmacV key text) w0) := by
  have hln := hk.len
  rw [bs8_len] at hln
  refine calls_of_WC (args := [.slice A m c, .slice B m2 c2]) Try.func27 rfl Try.ntmps27 rfl ?_
  show WC _ _ _ _ [(0, .slice A m c), (1, .slice B m2 c2)] _
  have hS := ST.start w0 No
  refine WC.seq ?_
  refine WC.region ?_
  refine WL.alloc hS zeroT_25 rfl ?_
  intro b4 w hb4 hS
  replace hS := hS.addNil 5 1
  refine WL.nil ?_
  refine QN.thenW ?_
  refine WC.seq ?_
  refine WC.region ?_
  refine WL.pv (pv_assign rfl) rfl ?_
  refine WL.nil ?_
  refine QN.thenW ?_
  refine WC.cut (α := Value) (fun kv => [(1, .slice B m2 c2), (4, .pointer (some ⟨b4, 0, none⟩)), (5, kv)]) (fun kv w => ST w0 No w [.row kv 5 1 (bs8 (key0 key)), .blk b4 25 (List.replicate 32 (b8 0))]) ?_ ?_
  · skip
    refine WC.seq ?_
    refine WC.region ?_
    refine WL.pv (pv_move rfl) rfl ?_
    refine WL.pv (pv_len slS_22 rfl) rfl ?_
    refine WL.pv (pv_gtr rfl rfl) rfl ?_
    refine WL.nil ?_
    refine QN.thenW ?_
    refine WC.condD rfl (fun hc11 => ?_) (fun hc11 => ?_)
    · skip
      have hk0 : key0 key = shaV key := by rw [key0, if_pos (by omega)]
      refine WC.region ?_
      refine WL.pv (pv_move rfl) rfl ?_
      refine WL.pv (pv_move rfl) rfl ?_
      refine WL.call (args := [.tmp 13]) cf_21 rfl rfl (refSum_c A m c key _ (hk.no hS.fr) (by omega)) ?_
      rintro _ w ⟨rfl, hF⟩
      refine ⟨_, rfl, ?_⟩
      replace hS := hS.no hF
      rw [← sha_eq]
      refine WL.call (args := [.tmp 14]) cf_63 rfl rfl (refBytes_c (shaV key) (shaV_len _) _) ?_
      rintro _ w ⟨vb, rfl, hF, hRb, _⟩
      refine ⟨_, rfl, ?_⟩
      replace hS := hS.no hF
      refine WL.append (k := 0) (N := 65536) hS slT_22 zlenT_5 (by decide) rfl rfl rfl hRb.rs bs8_one (by simp [bs8_len, shaV_len]) (by omega) (by simp [maxLen]) rfl ?_
      intro v1 w hFr16 hS
      try simp only [List.set] at hS
      rw [List.nil_append, ← hk0] at hS
      refine WL.pv (pv_assign rfl) rfl ?_
      refine WL.nil ?_
      refine QN.midE ?_
      exact ⟨(v1), (Sub.cons rfl (Sub.cons rfl (Sub.cons rfl Sub.nil))), hS⟩
    · skip
      have hk0 : key0 key = key := by rw [key0, if_neg (by omega)]
      refine WC.region ?_
      refine WL.pv (pv_move rfl) rfl ?_
      refine WL.pv (pv_move rfl) rfl ?_
      refine WL.append (k := 0) (N := 65536) hS slT_22 zlenT_5 (by decide) rfl rfl rfl (hk.no hS.fr) bs8_one (by simp [bs8_len]; omega) (by omega) (by simp [maxLen]) rfl ?_
      intro v1 w hFr19 hS
      try simp only [List.set] at hS
      rw [List.nil_append] at hS
      replace hS : ST w0 No w [.row v1 5 1 (bs8 (key0 key)), .blk b4 25 (List.replicate 32 (b8 0))] := by rw [hk0]; exact hS
      refine WL.pv (pv_assign rfl) rfl ?_
      refine WL.nil ?_
      refine QN.midE ?_
      exact ⟨(v1), (Sub.cons rfl (Sub.cons rfl (Sub.cons rfl Sub.nil))), hS⟩
  · rintro kv w hR
    have hS := hR
    have hk64 := key0_len key
    generalize hKK : key0 key = K0 at hS hk64
    refine WC.seq ?_
    refine WC.block ?_
    refine WC.loop (α := Nat × Value) (fun s => [(1, .slice B m2 c2), (4, .pointer (some ⟨b4, 0, none⟩)), (5, s.2)]) (fun s w => s.1 ≤ 64 - K0.length ∧ ST w0 No w [.row s.2 5 1 (bs8 (K0 ++ List.replicate s.1 0)), .blk b4 25 (List.replicate 32 (b8 0))]) (fun s => 64 - K0.length - s.1) ((0, kv)) (Sub.cons rfl (Sub.cons rfl (Sub.cons rfl Sub.nil))) ⟨by show 0 ≤ 64 - K0.length; omega, by rw [List.replicate_zero, List.append_nil]; exact hS⟩ ?_
    rintro ⟨j, kv2⟩ w N hN hR
    change N = 64 - K0.length - j at hN
    change j ≤ 64 - K0.length ∧ ST w0 No w [.row kv2 5 1 (bs8 (K0 ++ List.replicate j 0)), .blk b4 25 (List.replicate 32 (b8 0))] at hR
    show WC _ _ _ _ [(1, .slice B m2 c2), (4, .pointer (some ⟨b4, 0, none⟩)), (5, kv2)] _
    obtain ⟨hj, hS⟩ := hR
    obtain ⟨Ak, mk, ck, rfl, hmk, _, hmx⟩ := (hS.rw_ (k := 0) rfl).anyForm
    rw [bs8_len, List.length_append, List.length_replicate, Nat.mul_one] at hmk
    refine WC.seq ?_
    refine WC.seq ?_
    refine WC.region ?_
    refine WL.pv (pv_move rfl) rfl ?_
    refine WL.pv (pv_len slS_22 rfl) rfl ?_
    refine WL.pv (pv_lss rfl rfl) rfl ?_
    refine WL.nil ?_
    refine QN.thenW ?_
    refine WC.condD rfl (fun hc22 => ?_) (fun hc22 => ?_)
    · skip
      have hjz : j < 64 - K0.length := by omega
      refine WC.skip ?_
      refine QN.thenW ?_
      refine WC.block ?_
      refine WC.region ?_
      refine WL.pv (pv_move rfl) rfl ?_
      refine WL.build1 (v := b8 0) hS slT_22 zeroT_5 rfl rfl rfl rfl ?_
      intro b24 w hb24 hS
      refine WL.append (k := 1) (N := 65536) hS slT_22 zlenT_5 (by decide) rfl rfl rfl ((hS.bk (k := 0) rfl).rs 0 1 1 1 (by omega) (by simp [maxLen]) (by simp)) (by simp [Value.oneCell']) (by simp [bs8_len]; omega) (by omega) (by simp [maxLen]) rfl ?_
      intro v2 w hFr25 hS
      try simp only [List.set] at hS
      replace hS := hS.erase 0
      simp only [List.eraseIdx_zero, List.tail_cons] at hS
      rw [show List.take (1 * 1) (List.drop 0 [b8 0]) = [b8 0] from rfl, bs8_snoc, padK_step] at hS
      refine WL.pv (pv_assign rfl) rfl ?_
      refine WL.nil ?_
      refine QN.blockN ?_
      refine QN.roundE ?_
      refine ⟨((j + 1, v2)), (Sub.cons rfl (Sub.cons rfl (Sub.cons rfl Sub.nil))), ⟨by show j + 1 ≤ 64 - K0.length; omega, hS⟩, ?_⟩
      first | omega | (dsimp only; omega)
    · skip
      obtain rfl : j = 64 - K0.length := by omega
      obtain rfl : mk = 64 := by omega
      obtain ⟨gk, mk, ck', hek, hmk', _, _⟩ := (hS.rw_ (k := 0) rfl).form8 (by simp; omega)
      injection hek with e1 e2 e3; subst e1; subst e2; subst e3
      rw [show K0 ++ List.replicate (64 - K0.length) 0 = padK K0 from rfl] at hS
      have hpl := padK_len K0 hk64
      replace hS := (hS.addNil 5 1).addNil 5 1
      refine WC.exit ?_
      refine QN.thenX ?_
      refine QN.thenX ?_
      refine QN.blockX ?_
      refine QN.thenW ?_
      refine WC.seq ?_
      refine WC.region ?_
      refine WL.pv (pv_assign rfl) rfl ?_
      refine WL.nil ?_
      refine QN.thenW ?_
      refine WC.seq ?_
      refine WC.region ?_
      refine WL.pv (pv_assign rfl) rfl ?_
      refine WL.nil ?_
      refine QN.thenW ?_
      refine WC.seq ?_
      refine WC.seq ?_
      refine WC.region ?_
      refine WL.pv (pv_assign rfl) rfl ?_
      refine WL.nil ?_
      refine QN.thenW ?_
      refine WC.block ?_
      refine WC.loop (α := Nat × Value × Value) (fun s => [(1, .slice B m2 c2), (4, .pointer (some ⟨b4, 0, none⟩)), (5, .slice (some ⟨gk, 0, none⟩) 64 ck), (6, s.2.1), (7, s.2.2), (8, .int .i64 (s.1 : Int))]) (fun s w => s.1 ≤ 64 ∧ ST w0 No w [.row s.2.2 5 1 (bs8 (xorT 92 (padK K0) s.1)), .row s.2.1 5 1 (bs8 (xorT 54 (padK K0) s.1)), .row (.slice (some ⟨gk, 0, none⟩) 64 ck) 5 1 (bs8 (padK K0)), .blk b4 25 (List.replicate 32 (b8 0))]) (fun s => 64 - s.1) ((0, .slice none 0 0, .slice none 0 0)) (Sub.cons rfl (Sub.cons rfl (Sub.cons rfl (Sub.cons rfl (Sub.cons rfl (Sub.cons rfl Sub.nil)))))) ⟨by show 0 ≤ 64; omega, hS⟩ ?_
      rintro ⟨i, v6, v7⟩ w N hN hR
      change N = 64 - i at hN
      change i ≤ 64 ∧ ST w0 No w [.row v7 5 1 (bs8 (xorT 92 (padK K0) i)), .row v6 5 1 (bs8 (xorT 54 (padK K0) i)), .row (.slice (some ⟨gk, 0, none⟩) 64 ck) 5 1 (bs8 (padK K0)), .blk b4 25 (List.replicate 32 (b8 0))] at hR
      show WC _ _ _ _ [(1, .slice B m2 c2), (4, .pointer (some ⟨b4, 0, none⟩)), (5, .slice (some ⟨gk, 0, none⟩) 64 ck), (6, v6), (7, v7), (8, .int .i64 (i : Int))] _
      obtain ⟨hi, hS⟩ := hR
      refine WC.seq ?_
      refine WC.seq ?_
      refine WC.region ?_
      refine WL.pv (pv_move rfl) rfl ?_
      refine WL.pv (pv_lss rfl rfl) rfl ?_
      refine WL.nil ?_
      refine QN.thenW ?_
      refine WC.condD rfl (fun hc27 => ?_) (fun hc27 => ?_)
      · skip
        have hi64 : i < 64 := by omega
        have hx6 := xorT_len 54 (padK K0) i (by omega)
        have hx7 := xorT_len 92 (padK K0) i (by omega)
        refine WC.skip ?_
        refine QN.thenW ?_
        refine WC.seq ?_
        refine WC.block ?_
        refine WC.seq ?_
        refine WC.region ?_
        refine WL.pv (pv_move rfl) rfl ?_
        refine WL.pv (pv_move rfl) rfl ?_
        refine WL.pv (pv_move rfl) rfl ?_
        refine WL.pv (pv_indexAddrS1 slT_22 rfl rfl rfl (by omega)) rfl ?_
        refine WL.rv (rv_load oneT_5 rfl (hS.rcell (k := 2) rfl (bs8_at (by omega)))) rfl ?_
        refine WL.pv (pv_xor8 (b := 54) rfl rfl) rfl ?_
        refine WL.build1 hS slT_22 zeroT_5 rfl rfl rfl rfl ?_
        intro b36 w hb36 hS
        refine WL.append (k := 2) (N := 65536) hS slT_22 zlenT_5 (by decide) rfl rfl rfl ((hS.bk (k := 0) rfl).rs 0 1 1 1 (by omega) (by simp [maxLen]) (by simp)) (by simp [Value.oneCell']) (by simp [bs8_len]; omega) (by omega) (by simp [maxLen]) rfl ?_
        intro v37 w hFr37 hS
        try simp only [List.set] at hS
        replace hS := hS.erase 0
        simp only [List.eraseIdx_zero, List.tail_cons] at hS
        rw [show List.take (1 * 1) (List.drop 0 [b8 ((padK K0)[i]'(by omega) ^^^ 54)]) = [b8 ((padK K0)[i]'(by omega) ^^^ 54)] from rfl, bs8_snoc, xorT_succ _ _ _ (by omega)] at hS
        refine WL.pv (pv_assign rfl) rfl ?_
        refine WL.nil ?_
        refine QN.thenW ?_
        refine WC.region ?_
        refine WL.pv (pv_move rfl) rfl ?_
        refine WL.pv (pv_move rfl) rfl ?_
        refine WL.pv (pv_move rfl) rfl ?_
        refine WL.pv (pv_indexAddrS1 slT_22 rfl rfl rfl (by omega)) rfl ?_
        refine WL.rv (rv_load oneT_5 rfl (hS.rcell (k := 2) rfl (bs8_at (by omega)))) rfl ?_
        refine WL.pv (pv_xor8 (b := 92) rfl rfl) rfl ?_
        refine WL.build1 hS slT_22 zeroT_5 rfl rfl rfl rfl ?_
        intro b44 w hb44 hS
        refine WL.append (k := 1) (N := 65536) hS slT_22 zlenT_5 (by decide) rfl rfl rfl ((hS.bk (k := 0) rfl).rs 0 1 1 1 (by omega) (by simp [maxLen]) (by simp)) (by simp [Value.oneCell']) (by simp [bs8_len]; omega) (by omega) (by simp [maxLen]) rfl ?_
        intro v45 w hFr45 hS
        try simp only [List.set] at hS
        replace hS := hS.erase 0
        simp only [List.eraseIdx_zero, List.tail_cons] at hS
        rw [show List.take (1 * 1) (List.drop 0 [b8 ((padK K0)[i]'(by omega) ^^^ 92)]) = [b8 ((padK K0)[i]'(by omega) ^^^ 92)] from rfl, bs8_snoc, xorT_succ _ _ _ (by omega)] at hS
        refine WL.pv (pv_assign rfl) rfl ?_
        refine WL.nil ?_
        refine QN.blockN ?_
        refine QN.thenW ?_
        refine WC.region ?_
        refine WL.pv (pv_move rfl) rfl ?_
        refine WL.pv (pv_add rfl rfl (by omega)) rfl ?_
        refine WL.pv (pv_assign rfl) rfl ?_
        refine WL.nil ?_
        refine QN.roundE ?_
        refine ⟨((i + 1, v37, v45)), (Sub.cons rfl (Sub.cons rfl (Sub.cons rfl (Sub.cons rfl (Sub.cons rfl (Sub.cons rfl Sub.nil)))))), ⟨by show i + 1 ≤ 64; omega, hS⟩, ?_⟩
        first | omega | (dsimp only; omega)
      · skip
        obtain rfl : i = 64 := by omega
        rw [xorT_all 54 _ hpl, xorT_all 92 _ hpl] at hS
        replace hS : ST w0 No w [.row v7 5 1 (bs8 (outP key)), .row v6 5 1 (bs8 (inP key)), .row (.slice (some ⟨gk, 0, none⟩) 64 ck) 5 1 (bs8 (padK K0)), .blk b4 25 (List.replicate 32 (b8 0))] := by rw [outP, inP, hKK]; exact hS
        have hil := inP_len key
        have hol := outP_len key
        refine WC.exit ?_
        refine QN.thenX ?_
        refine QN.thenX ?_
        refine QN.blockX ?_
        refine QN.thenW ?_
        refine WC.seq ?_
        refine WC.region ?_
        refine WL.pv (pv_move rfl) rfl ?_
        refine WL.pv (pv_move rfl) rfl ?_
        refine WL.append (k := 1) (N := 65536) hS slT_22 zlenT_5 (by decide) rfl rfl rfl (ht.no hS.fr) bs8_one (by simp [bs8_len]; omega) (by omega) (by simp [maxLen]) rfl ?_
        intro v8 w hFr48 hS
        try simp only [List.set] at hS
        rw [← bs8_app] at hS
        obtain ⟨A8, m8, c8, rfl, _, _, _⟩ := (hS.rw_ (k := 1) rfl).anyForm
        refine WL.pv (pv_assign rfl) rfl ?_
        refine WL.nil ?_
        refine QN.thenW ?_
        refine WC.seq ?_
        refine WC.region ?_
        refine WL.pv (pv_move rfl) rfl ?_
        refine WL.pv (pv_move rfl) rfl ?_
        refine WL.call (args := [.tmp 50]) cf_21 rfl rfl (refSum_c _ _ _ _ _ (hS.rw_ (k := 1) rfl).rs (by simp; omega)) ?_
        rintro _ w ⟨rfl, hF⟩
        refine ⟨_, rfl, ?_⟩
        replace hS := hS.no hF
        rw [← sha_eq]
        refine WL.call (args := [.tmp 51]) cf_63 rfl rfl (refBytes_c _ (shaV_len _) _) ?_
        rintro _ w ⟨vb, rfl, hF, hRb, _⟩
        refine ⟨_, rfl, ?_⟩
        replace hS := hS.no hF
        refine WL.append (k := 0) (N := 65536) hS slT_22 zlenT_5 (by decide) rfl rfl rfl hRb.rs bs8_one (by simp [bs8_len, shaV_len]; omega) (by omega) (by simp [maxLen]) rfl ?_
        intro v9 w hFr53 hS
        try simp only [List.set] at hS
        rw [← bs8_app] at hS
        obtain ⟨A9, m9, c9, rfl, _, _, _⟩ := (hS.rw_ (k := 0) rfl).anyForm
        refine WL.pv (pv_assign rfl) rfl ?_
        refine WL.nil ?_
        refine QN.thenW ?_
        refine WC.seq ?_
        refine WC.region ?_
        refine WL.pv (pv_move rfl) rfl ?_
        refine WL.call (args := [.tmp 54]) cf_21 rfl rfl (refSum_c _ _ _ _ _ (hS.rw_ (k := 0) rfl).rs (by simp [shaV_len]; omega)) ?_
        rintro _ w ⟨rfl, hF⟩
        refine ⟨_, rfl, ?_⟩
        replace hS := hS.no hF
        rw [← sha_eq]
        refine WL.storeAll (k := 3) (vs := bs8 (hmacV key text)) hS (by rw [sizeT_25, bs8_len, hmacV_len]) rfl rfl rfl bs8_one (by simp [bs8_len, hmacV_len]) ?_
        intro w hS
        try simp only [List.set] at hS
        refine WL.nil ?_
        refine QN.thenW ?_
        refine WC.ret ?_
        refine QN.retK (k := 3) rfl rfl hS rfl (by rw [aggT_25, bs8_len, hmacV_len]) ?_
        exact ⟨rfl, hS.fr⟩

end Go.Proofs.Ytjcebkhhgdgohaa
