/- What the functions of keys from a key compute. -/
import Derived.Test.YtjcebkhhgdgohaaHb
namespace Go.Proofs.Ytjcebkhhgdgohaa
open Go Go.RowKit Go.Eng


def saltV (s : List UInt8) : List UInt8 := if s.length = 0 then List.replicate 32 0 else s
def extractV (s t : List UInt8) : List UInt8 := hmacV (saltV s) t
theorem extractV_len (s t : List UInt8) : (extractV s t).length = 32 := hmacV_len _ _

set_option maxRecDepth 100000 in
theorem extract_c (A B : Option Addr) (m c m2 c2 : Nat) (salt text : List UInt8) (w0 : World) (hk : Rs w0 (.slice A m c) 1 (bs8 salt)) (ht : Rs w0 (.slice B m2 c2) 1 (bs8 text)) : Calls Try.prog 30 #[.slice A m c, .slice B m2 c2] w0 (KeyPost (extractV salt text) w0) := by
  have hln := hk.len
  rw [bs8_len] at hln
  refine calls_of_WC (args := [.slice A m c, .slice B m2 c2]) Try.func30 rfl Try.ntmps30 rfl ?_
  show WC _ _ _ _ [(0, .slice A m c), (1, .slice B m2 c2)] _
  have hS := ST.start w0 No
  refine WC.seq ?_
  refine WC.region ?_
  refine WL.alloc hS zeroT_25 rfl ?_
  intro b4 w hb4 hS
  refine WL.nil ?_
  refine QN.thenW ?_
  refine WC.cut (α := Value) (fun kv => [(0, kv), (1, .slice B m2 c2), (4, .pointer (some ⟨b4, 0, none⟩))]) (fun kv w => Rs w kv 1 (bs8 (saltV salt)) ∧ ST w0 No w [.blk b4 25 (List.replicate 32 (b8 0))]) ?_ ?_
  · skip
    refine WC.seq ?_
    refine WC.region ?_
    refine WL.pv (pv_move rfl) rfl ?_
    refine WL.pv (pv_len slS_22 rfl) rfl ?_
    refine WL.pv (pv_eql rfl rfl) rfl ?_
    refine WL.nil ?_
    refine QN.thenW ?_
    refine WC.condD rfl (fun hc8 => ?_) (fun hc8 => ?_)
    · skip
      have hs : saltV salt = List.replicate 32 0 := by rw [saltV, if_pos (by omega)]
      refine WC.seq ?_
      refine WC.region ?_
      refine WL.alloc hS zeroT_25 rfl ?_
      intro b5 w hb5 hS
      refine WL.nil ?_
      refine QN.thenW ?_
      refine WC.region ?_
      refine WL.pv (pv_sliceW arrT_25 rfl) rfl ?_
      refine WL.pv (pv_assign rfl) rfl ?_
      refine WL.nil ?_
      first
      | (have hend : Rs w (.slice (some ⟨b5, 0, none⟩) 32 32) 1 (bs8 (saltV salt)) ∧ ST w0 No w [.blk b4 25 (List.replicate 32 (b8 0))] := by
           refine ⟨?_, hS.drop⟩
           rw [hs]; exact Bk.rsAll (l := List.replicate 32 0) (hS.bk (k := 0) rfl) (by simp) (by simp [maxLen]))
      | (have hend : Rs w (.slice A m c) 1 (bs8 (saltV salt)) ∧ ST w0 No w [.blk b4 25 (List.replicate 32 (b8 0))] := ⟨by rw [hs]; exact hk.no hS.fr, hS⟩)
      refine QN.midE ?_
      exact ⟨(_), (Sub.cons rfl (Sub.cons rfl (Sub.cons rfl Sub.nil))), hend⟩
    · skip
      have hs : saltV salt = salt := by rw [saltV, if_neg (by omega)]
      refine WC.skip ?_
      first
      | (have hend : Rs w (.slice (some ⟨b5, 0, none⟩) 32 32) 1 (bs8 (saltV salt)) ∧ ST w0 No w [.blk b4 25 (List.replicate 32 (b8 0))] := by
           refine ⟨?_, hS.drop⟩
           rw [hs]; exact Bk.rsAll (l := List.replicate 32 0) (hS.bk (k := 0) rfl) (by simp) (by simp [maxLen]))
      | (have hend : Rs w (.slice A m c) 1 (bs8 (saltV salt)) ∧ ST w0 No w [.blk b4 25 (List.replicate 32 (b8 0))] := ⟨by rw [hs]; exact hk.no hS.fr, hS⟩)
      refine QN.midE ?_
      exact ⟨(_), (Sub.cons rfl (Sub.cons rfl (Sub.cons rfl Sub.nil))), hend⟩
  · rintro kv w hR
    obtain ⟨hkv, hS⟩ := hR
    obtain ⟨Ak, mk, ck, rfl, _, _, _, _⟩ := id hkv
    refine WC.seq ?_
    refine WC.region ?_
    refine WL.pv (pv_move rfl) rfl ?_
    refine WL.pv (pv_move rfl) rfl ?_
    refine WL.call (args := [.tmp 10, .tmp 11]) cf_26 rfl rfl (tag_c _ _ _ _ _ _ (saltV salt) text _ hkv (ht.no hS.fr)) ?_
    rintro _ w ⟨rfl, hF⟩
    refine ⟨_, rfl, ?_⟩
    replace hS := hS.no hF
    refine WL.storeAll (k := 0) (vs := bs8 (extractV salt text)) hS (by rw [sizeT_25, bs8_len, extractV_len]) rfl rfl rfl bs8_one (by simp [bs8_len, extractV_len]) ?_
    intro w hS
    try simp only [List.set] at hS
    refine WL.nil ?_
    refine QN.thenW ?_
    refine WC.ret ?_
    refine QN.retK (k := 0) rfl rfl hS rfl (by rw [aggT_25, bs8_len, extractV_len]) ?_
    exact ⟨rfl, hS.fr⟩

set_option maxRecDepth 100000 in
theorem refExtract_c (A B : Option Addr) (m c m2 c2 : Nat) (salt text : List UInt8) (w0 : World) (hk : Rs w0 (.slice A m c) 1 (bs8 salt)) (ht : Rs w0 (.slice B m2 c2) 1 (bs8 text)) (hkl : salt.length ≤ 9000) (htl : text.length ≤ 9000) : Calls Try.prog 31 #[.slice A m c, .slice B m2 c2] w0 (KeyPost (extractV salt text) w0) := by
  have hln := hk.len
  rw [bs8_len] at hln
  refine calls_of_WC (args := [.slice A m c, .slice B m2 c2]) Try.func31 rfl Try.ntmps31 rfl ?_
  show WC _ _ _ _ [(0, .slice A m c), (1, .slice B m2 c2)] _
  have hS := ST.start w0 No
  refine WC.seq ?_
  refine WC.region ?_
  refine WL.alloc hS zeroT_25 rfl ?_
  intro b4 w hb4 hS
  refine WL.nil ?_
  refine QN.thenW ?_
  refine WC.seq ?_
  refine WC.seq ?_
  refine WC.region ?_
  refine WL.pv (pv_move rfl) rfl ?_
  refine WL.pv (pv_len slS_22 rfl) rfl ?_
  refine WL.pv (pv_eql rfl rfl) rfl ?_
  refine WL.nil ?_
  refine QN.thenW ?_
  refine WC.condD rfl (fun hc7 => ?_) (fun hc7 => ?_)
  · skip
    have hs : saltV salt = List.replicate 32 0 := by rw [saltV, if_pos (by omega)]
    refine WC.seq ?_
    refine WC.region ?_
    refine WL.makeB (c := 32) hS slT_22 zeroT_5 (by simp) rfl rfl (by omega) (by simp [maxLen]) rfl ?_
    intro b5 w hb5 hS
    refine WL.pv (pv_move rfl) rfl ?_
    refine WL.call (args := [.tmp 8, .tmp 9]) cf_27 rfl rfl (refTag_c _ _ _ _ _ _ (saltV salt) text _ (by rw [hs]; exact Bk.rsAll (l := List.replicate 32 0) (hS.bk (k := 0) rfl) (by simp) (by simp [maxLen])) (ht.no hS.fr) (by rw [hs]; simp) htl) ?_
    rintro _ w ⟨rfl, hF⟩
    refine ⟨_, rfl, ?_⟩
    replace hS := hS.no hF
    refine WL.storeAll (k := 1) (vs := bs8 (extractV salt text)) hS (by rw [sizeT_25, bs8_len, extractV_len]) rfl rfl rfl bs8_one (by simp [bs8_len, extractV_len]) ?_
    intro w hS
    try simp only [List.set] at hS
    refine WL.nil ?_
    refine QN.thenW ?_
    refine WC.ret ?_
    refine QN.thenR ?_
    refine QN.retK (k := 1) rfl rfl hS rfl (by rw [aggT_25, bs8_len, extractV_len]) ?_
    exact ⟨rfl, hS.fr⟩
  · skip
    have hs : saltV salt = salt := by rw [saltV, if_neg (by omega)]
    refine WC.skip ?_
    refine QN.thenW ?_
    refine WC.seq ?_
    refine WC.region ?_
    refine WL.pv (pv_move rfl) rfl ?_
    refine WL.pv (pv_move rfl) rfl ?_
    refine WL.call (args := [.tmp 11, .tmp 12]) cf_27 rfl rfl (refTag_c _ _ _ _ _ _ (saltV salt) text _ (by rw [hs]; exact hk.no hS.fr) (ht.no hS.fr) (by rw [hs]; exact hkl) htl) ?_
    rintro _ w ⟨rfl, hF⟩
    refine ⟨_, rfl, ?_⟩
    replace hS := hS.no hF
    refine WL.storeAll (k := 0) (vs := bs8 (extractV salt text)) hS (by rw [sizeT_25, bs8_len, extractV_len]) rfl rfl rfl bs8_one (by simp [bs8_len, extractV_len]) ?_
    intro w hS
    try simp only [List.set] at hS
    refine WL.nil ?_
    refine QN.thenW ?_
    refine WC.ret ?_
    refine QN.retK (k := 0) rfl rfl hS rfl (by rw [aggT_25, bs8_len, extractV_len]) ?_
    exact ⟨rfl, hS.fr⟩

end Go.Proofs.Ytjcebkhhgdgohaa
namespace Go.Proofs.Ytjcebkhhgdgohaa
open Go Go.RowKit Go.Eng


/-- What Expand has behind i rounds: the last block, all blocks. -/
def expL (key info : List UInt8) : Nat → List UInt8
  | 0 => []
  | i + 1 => hmacV key (expL key info i ++ info ++ [UInt8.ofNat (i + 1)])
def expO (key info : List UInt8) : Nat → List UInt8
  | 0 => []
  | i + 1 => expO key info i ++ expL key info (i + 1)
theorem expL_len (key info : List UInt8) (i : Nat) : (expL key info (i + 1)).length = 32 := hmacV_len _ _
theorem expL_le (key info : List UInt8) (i : Nat) : (expL key info i).length ≤ 32 := by cases i with | zero => simp [expL] | succ i => rw [expL_len]; omega
theorem expO_len (key info : List UInt8) (i : Nat) : (expO key info i).length = 32 * i := by
  induction i with
  | zero => rfl
  | succ i ih => rw [expO, List.length_append, ih, expL_len]; omega
/-- So many bytes of a key. -/
def expandV (key info : List UInt8) (n : Nat) : List UInt8 := (expO key info ((n + 31) / 32)).take n

set_option maxRecDepth 100000 in
theorem join_c (A B : Option Addr) (m c m2 c2 : Nat) (a b : List UInt8) (w0 : World) (ha : Rs w0 (.slice A m c) 1 (bs8 a)) (hb : Rs w0 (.slice B m2 c2) 1 (bs8 b)) (hn : a.length + b.length ≤ 60000) : Calls Try.prog 64 #[.slice A m c, .slice B m2 c2] w0 (OwnPost (bs8 (a ++ b)) 5 w0) := by
  refine calls_of_WC (args := [.slice A m c, .slice B m2 c2]) Try.func64 rfl Try.ntmps64 rfl ?_
  show WC _ _ _ _ [(0, .slice A m c), (1, .slice B m2 c2)] _
  have hS := ST.start w0 No
  refine WC.seq ?_
  refine WC.region ?_
  refine WL.pv (pv_assign rfl) rfl ?_
  refine WL.nil ?_
  refine QN.thenW ?_
  refine WC.seq ?_
  refine WC.region ?_
  refine WL.pv (pv_assign rfl) rfl ?_
  refine WL.nil ?_
  refine QN.thenW ?_
  refine WC.seq ?_
  replace hS := hS.addNil 5 1
  refine WC.region ?_
  refine WL.pv (pv_move rfl) rfl ?_
  refine WL.pv (pv_move rfl) rfl ?_
  refine WL.append (k := 0) (N := 65536) hS slT_22 zlenT_5 (by decide) rfl rfl rfl (ha.no hS.fr) bs8_one (by simp [bs8_len]; omega) (by omega) (by simp [maxLen]) rfl ?_
  intro v1 w hFr8 hS
  try simp only [List.set] at hS
  refine WL.pv (pv_assign rfl) rfl ?_
  refine WL.nil ?_
  refine QN.thenW ?_
  refine WC.seq ?_
  refine WC.region ?_
  refine WL.pv (pv_move rfl) rfl ?_
  refine WL.pv (pv_move rfl) rfl ?_
  refine WL.append (k := 0) (N := 65536) hS slT_22 zlenT_5 (by decide) rfl rfl rfl (hb.no hS.fr) bs8_one (by simp [bs8_len]; omega) (by omega) (by simp [maxLen]) rfl ?_
  intro v2 w hFr11 hS
  try simp only [List.set] at hS
  rw [List.nil_append, ← bs8_app] at hS
  refine WL.pv (pv_assign rfl) rfl ?_
  refine WL.nil ?_
  refine QN.thenW ?_
  refine WC.seq ?_
  refine WC.region ?_
  refine WL.pv (pv_move rfl) rfl ?_
  refine WL.pv (pv_assign rfl) rfl ?_
  refine WL.nil ?_
  refine QN.thenW ?_
  refine WC.ret ?_
  refine QN.ret1 rfl rfl ?_
  exact ⟨_, rfl, hS.fr, hS.rw_ (k := 0) rfl, fun b hb => (hS.own' (i := 0) rfl hb).resolve_right (fun h => h)⟩


theorem rs_cap {w : World} {A : Option Addr} {n c : Nat} {l : List UInt8} (h : Rs w (.slice A n c) 1 (bs8 l)) (hn : n ≤ maxLen) : Rs w (.slice (if n = 0 then A else A.map (·.add (0 * 1))) (n - 0) (n - 0)) 1 (bs8 l) := by
  obtain ⟨A', n', c', he, h1, h2, h3, h4⟩ := h
  injection he with e1 e2 e3; subst e1; subst e2; subst e3
  refine ⟨_, _, _, rfl, Nat.le_refl _, hn, h3, ?_⟩
  rcases h4 with h4 | ⟨b, o, rfl, h4⟩
  · exact .inl h4
  · refine .inr ⟨b, o, ?_, h4⟩
    split
    · rfl
    · simp [Addr.add]
def ExpPost (key info : List UInt8) (n : Nat) (w0 : World) (e : Ending) (w : World) : Prop := ∃ v, e = .returned (.tuple #[v, .int .i64 0]) ∧ Fr No w0 w ∧ Rs w v 1 (bs8 (expandV key info n))
theorem expand_stop (key info : List UInt8) (k n : Nat) (h1 : n ≤ 32 * k) (h2 : 32 * k < n + 32) : (expO key info k).take n = expandV key info n := by rw [expandV, show (n + 31) / 32 = k from by omega]

set_option maxHeartbeats 1000000 in
set_option maxRecDepth 100000 in
theorem expand_c (B : Option Addr) (m2 c2 n : Nat) (key info : List UInt8) (w0 : World) (hkl : key.length = 32) (hi : Rs w0 (.slice B m2 c2) 1 (bs8 info)) (hil : info.length ≤ 60000) (hn : n ≤ 8160) : Calls Try.prog 32 #[.agg (bs8 key).toArray, .slice B m2 c2, .int .i64 (n : Int)] w0 (ExpPost key info n w0) := by
  refine calls_of_WC (args := [.agg (bs8 key).toArray, .slice B m2 c2, .int .i64 (n : Int)]) Try.func32 rfl Try.ntmps32 rfl ?_
  show WC _ _ _ _ [(0, .agg (bs8 key).toArray), (1, .slice B m2 c2), (2, .int .i64 (n : Int))] _
  have hS := ST.start w0 No
  refine WC.seq ?_
  refine WC.region ?_
  refine WL.box (vs := bs8 key) hS rfl rfl rfl ?_
  intro b3 w hb3 hS
  refine WL.pv (pv_assign rfl) rfl ?_
  refine WL.pv (pv_assign rfl) rfl ?_
  refine WL.nil ?_
  refine QN.thenW ?_
  refine WC.seq ?_
  refine WC.seq ?_
  refine WC.region ?_
  refine WL.pv (pv_move rfl) rfl ?_
  refine WL.pv (pv_lss rfl rfl) rfl ?_
  refine WL.pv (pv_move rfl) rfl ?_
  refine WL.guardT rfl rfl rfl (lkF rfl (by omega)) ?_
  refine WL.pv (pv_move rfl) rfl ?_
  refine WL.guardT rfl rfl rfl (lkF rfl (by omega)) ?_
  refine WL.pv (pv_gtr rfl rfl) rfl ?_
  refine WL.pv (pv_pick0 (lkF rfl (by omega)) rfl) rfl ?_
  refine WL.nil ?_
  refine QN.thenW ?_
  refine WC.condDF rfl (by omega) ?_
  refine WC.skip ?_
  refine QN.thenW ?_
  refine WC.seq ?_
  refine WC.region ?_
  refine WL.pv (pv_assign rfl) rfl ?_
  refine WL.pv (pv_assign rfl) rfl ?_
  refine WL.nil ?_
  refine QN.thenW ?_
  refine WC.seq ?_
  refine WC.seq ?_
  refine WC.region ?_
  refine WL.pv (pv_assign rfl) rfl ?_
  refine WL.nil ?_
  refine QN.thenW ?_
  refine WC.block ?_
  refine WC.loop (α := Nat × Value × Value) (fun s => [(1, .slice B m2 c2), (2, .int .i64 (n : Int)), (3, .pointer (some ⟨b3, 0, none⟩)), (8, s.2.1), (9, s.2.2), (10, b8 (UInt8.ofNat (s.1 + 1)))]) (fun s w => 32 * s.1 < n + 32 ∧ Els w (Ours [.row s.2.1 5 1 (bs8 (expO key info s.1)), .blk b3 25 (bs8 key)]) [s.2.2] [expL key info s.1] ∧ ST w0 No w [.row s.2.1 5 1 (bs8 (expO key info s.1)), .blk b3 25 (bs8 key)]) (fun s => n + 32 - 32 * s.1) ((0, .slice none 0 0, .slice none 0 0)) (Sub.cons rfl (Sub.cons rfl (Sub.cons rfl (Sub.cons rfl (Sub.cons rfl (Sub.cons rfl Sub.nil)))))) ⟨by show 32 * 0 < n + 32; omega, Els.add Els.nil ⟨none, 0, 0, rfl, Nat.le_refl _, by simp [maxLen], by simp [bs8, expL], .inl rfl⟩ (fun h => by simp [expL] at h), hS.addNil 5 1⟩ ?_
  rintro ⟨k, v8, v9⟩ w N hN hR
  change N = n + 32 - 32 * k at hN
  change 32 * k < n + 32 ∧ Els w (Ours [.row v8 5 1 (bs8 (expO key info k)), .blk b3 25 (bs8 key)]) [v9] [expL key info k] ∧ ST w0 No w [.row v8 5 1 (bs8 (expO key info k)), .blk b3 25 (bs8 key)] at hR
  show WC _ _ _ _ [(1, .slice B m2 c2), (2, .int .i64 (n : Int)), (3, .pointer (some ⟨b3, 0, none⟩)), (8, v8), (9, v9), (10, b8 (UInt8.ofNat (k + 1)))] _
  obtain ⟨hk0, hE, hS⟩ := hR
  obtain ⟨A8, m8, c8, rfl, hm8, hc8, hmx8⟩ := (hS.rw_ (k := 0) rfl).anyForm
  rw [bs8_len, expO_len, Nat.mul_one] at hm8
  refine WC.seq ?_
  refine WC.seq ?_
  refine WC.region ?_
  refine WL.pv (pv_move rfl) rfl ?_
  refine WL.pv (pv_len slS_22 rfl) rfl ?_
  refine WL.pv (pv_move rfl) rfl ?_
  refine WL.pv (pv_lss rfl rfl) rfl ?_
  refine WL.nil ?_
  refine QN.thenW ?_
  refine WC.condD rfl (fun hc22 => ?_) (fun hc22 => ?_)
  · skip
    have hO := hS
    replace hS := hO.base
    have hle := expL_le key info k
    have hsub : some (b8 (UInt8.ofNat (k + 1) + 1)) = some (b8 (UInt8.ofNat (k + 1 + 1))) := by congr 2; apply UInt8.toNat_inj.1; simp
    refine WC.skip ?_
    refine QN.thenW ?_
    refine WC.seq ?_
    refine WC.block ?_
    refine WC.seq ?_
    refine WC.region ?_
    refine WL.build0 hS slT_22 rfl ?_
    intro r25 w hr25 hS
    refine WL.pv (pv_move rfl) rfl ?_
    refine WL.append (k := 0) (N := 65536) hS slT_22 zlenT_5 (by decide) rfl rfl rfl ((hE.step hS).2 0 (by simp) (by simp)).1 bs8_one (by simp [bs8_len]; omega) (by omega) (by simp [maxLen]) rfl ?_
    intro v27 w hFr27 hS
    try simp only [List.set] at hS
    refine WL.pv (pv_move rfl) rfl ?_
    refine WL.append (k := 0) (N := 65536) hS slT_22 zlenT_5 (by decide) rfl rfl rfl ((hi.no hO.fr).frN hS.fr (fun h0 b hb => hO.notOurs hi h0 hb)) bs8_one (by simp [bs8_len]; omega) (by omega) (by simp [maxLen]) rfl ?_
    intro v29 w hFr29 hS
    try simp only [List.set] at hS
    refine WL.pv (pv_move rfl) rfl ?_
    refine WL.build1 hS slT_22 zeroT_5 rfl rfl rfl rfl ?_
    intro b31 w hb31 hS
    refine WL.append (k := 1) (N := 65536) hS slT_22 zlenT_5 (by decide) rfl rfl rfl ((hS.bk (k := 0) rfl).rs 0 1 1 1 (by omega) (by simp [maxLen]) (by simp)) (by simp [Value.oneCell']) (by simp [bs8_len]; omega) (by omega) (by simp [maxLen]) rfl ?_
    intro v32 w hFr32 hS
    try simp only [List.set] at hS
    rw [List.nil_append, ← bs8_app, show List.take (1 * 1) (List.drop 0 [b8 (UInt8.ofNat (k + 1))]) = bs8 [UInt8.ofNat (k + 1)] from rfl, ← bs8_app] at hS
    obtain ⟨A3, m3, c3, rfl, _, _, _⟩ := (hS.rw_ (k := 1) rfl).anyForm
    refine WL.pv (pv_assign rfl) rfl ?_
    refine WL.nil ?_
    refine QN.thenW ?_
    refine WC.seq ?_
    refine WC.region ?_
    refine WL.pv (pv_sliceW arrT_25 rfl) rfl ?_
    refine WL.pv (pv_move rfl) rfl ?_
    refine WL.call (args := [.tmp 33, .tmp 34]) cf_26 rfl rfl (tag_c _ _ _ _ _ _ key _ _ (Bk.rsAll (hS.bk (k := 3) rfl) hkl (by simp [maxLen])) (hS.rw_ (k := 1) rfl).rs) ?_
    rintro _ w ⟨rfl, hF⟩
    refine ⟨_, rfl, ?_⟩
    replace hS := hS.no hF
    change WL _ _ _ _ _ ((35, .agg (bs8 (expL key info (k + 1))).toArray) :: _) _
    refine WL.alloc hS zeroT_25 rfl ?_
    intro b12 w hb12 hS
    refine WL.storeAll (k := 0) (vs := bs8 (expL key info (k + 1))) hS (by rw [sizeT_25, bs8_len, expL_len]) rfl rfl rfl bs8_one (by simp [bs8_len, expL_len]) ?_
    intro w hS
    try simp only [List.set] at hS
    refine WL.nil ?_
    refine QN.thenW ?_
    refine WC.seq ?_
    refine WC.region ?_
    refine WL.pv (pv_sliceW arrT_25 rfl) rfl ?_
    refine WL.pv (pv_assign rfl) rfl ?_
    refine WL.nil ?_
    refine QN.thenW ?_
    refine WC.region ?_
    refine WL.pv (pv_move rfl) rfl ?_
    refine WL.pv (pv_move rfl) rfl ?_
    refine WL.append (k := 3) (N := 65536) hS slT_22 zlenT_5 (by decide) rfl rfl rfl (Bk.rsAll (hS.bk (k := 0) rfl) (expL_len _ _ _) (by simp [maxLen])) bs8_one (by simp [bs8_len, expL_len, expO_len]; omega) (by omega) (by simp [maxLen]) rfl ?_
    intro v39 w hFr39 hS
    try simp only [List.set] at hS
    rw [← bs8_app] at hS
    have hSv := (hS.erase 1).erase 1
    simp only [List.eraseIdx_zero, List.eraseIdx_cons_succ, List.tail_cons] at hSv
    have hS3 : ST _ _ w [.row v39 5 1 (bs8 (expO key info (k + 1))), .blk b3 25 (bs8 key)] := hSv.drop
    have hS4 := hO.rebase hS3
    have hE5 : Els w (Ours [.row v39 5 1 (bs8 (expO key info (k + 1))), .blk b3 25 (bs8 key)]) [.slice (some ⟨b12, 0, none⟩) 32 32] [expL key info (k + 1)] := Els.add Els.nil (Bk.rsAll (hSv.bk (k := 0) rfl) (expL_len _ _ _) (by simp [maxLen])) (fun _ b hb hN => by
      obtain ⟨e, he, hbe⟩ := hN
      obtain rfl : b12 = b := by simpa [Value.ownBlock] using hb
      simp only [List.mem_cons, List.not_mem_nil, or_false] at he
      rcases he with rfl | rfl
      · exact hSv.apart (i := 0) (j := 1) rfl rfl (by omega) (b := b12) rfl hbe
      · exact hSv.apart (i := 0) (j := 2) rfl rfl (by omega) (b := b12) rfl hbe)
    clear hS
    have hS := hS4
    refine WL.pv (pv_assign rfl) rfl ?_
    refine WL.nil ?_
    refine QN.blockN ?_
    refine QN.thenW ?_
    refine WC.region ?_
    refine WL.pv (pv_move rfl) rfl ?_
    refine WL.pv (pv_add8 (b := 1) rfl rfl) rfl ?_
    refine WL.pv (pv_assign rfl) rfl ?_
    refine WL.nil ?_
    refine QN.roundE ?_
    refine ⟨((k + 1, v39, _)), (Sub.cons rfl (Sub.cons rfl (Sub.cons rfl (Sub.cons rfl (Sub.cons rfl (Sub.cons hsub Sub.nil)))))), ⟨by show 32 * (k + 1) < n + 32; omega, hE5, hS⟩, ?_⟩
    first | omega | (dsimp only; omega)
  · skip
    refine WC.exit ?_
    refine QN.thenX ?_
    refine QN.thenX ?_
    refine QN.blockX ?_
    refine QN.thenW ?_
    refine WC.seq ?_
    refine WC.region ?_
    refine WL.pv (pv_move rfl) rfl ?_
    refine WL.pv (pv_move rfl) rfl ?_
    refine WL.pv (pv_move rfl) rfl ?_
    refine WL.pv (pv_sliceS (a := 0) (b := n) (c := n) slT_22 rfl rfl rfl rfl rfl rfl rfl (by simp) (Nat.zero_le _) (Nat.le_refl _) (by omega)) rfl ?_
    refine WL.pv (pv_assign rfl) rfl ?_
    refine WL.pv (pv_assign rfl) rfl ?_
    refine WL.nil ?_
    refine QN.thenW ?_
    refine WC.ret ?_
    refine QN.ret2 rfl rfl rfl ?_
    refine ⟨_, rfl, hS.fr, ?_⟩
    rw [← expand_stop key info k n (by omega) hk0]
    exact rs_cap ((hS.rw_ (k := 0) rfl).rs.cutH8 (b := n) (by omega)) (by simp only [maxLen]; omega)

end Go.Proofs.Ytjcebkhhgdgohaa
namespace Go.Proofs.Ytjcebkhhgdgohaa
open Go Go.RowKit Go.Eng


def ikmW : List UInt8 := List.replicate 22 11
def saltW : List UInt8 := [0, 1, 2, 3, 4, 5, 6, 7, 8, 9, 10, 11, 12]
def infoW : List UInt8 := [240, 241, 242, 243, 244, 245, 246, 247, 248, 249]
def prkW : List UInt8 := [7, 119, 9, 54, 44, 46, 50, 223, 13, 220, 63, 13, 196, 123, 186, 99, 144, 182, 199, 59, 181, 15, 156, 49, 34, 236, 132, 74, 215, 194, 179, 229]
theorem prk1 : refV (inP saltW ++ ikmW) = [244, 47, 229, 74, 14, 6, 21, 189, 202, 29, 69, 248, 169, 166, 99, 177, 51, 127, 74, 112, 89, 249, 237, 33, 216, 118, 237, 33, 42, 137, 166, 59] := by decide +kernel
theorem prk2 : refV (outP saltW ++ [244, 47, 229, 74, 14, 6, 21, 189, 202, 29, 69, 248, 169, 166, 99, 177, 51, 127, 74, 112, 89, 249, 237, 33, 216, 118, 237, 33, 42, 137, 166, 59]) = prkW := by decide +kernel
theorem okm1 : refV (inP prkW ++ (infoW ++ [1])) = [230, 149, 138, 18, 150, 76, 172, 222, 68, 142, 24, 39, 158, 173, 252, 217, 123, 112, 45, 113, 106, 113, 238, 181, 121, 175, 116, 236, 132, 188, 116, 30] := by decide +kernel
theorem okm2 : (refV (outP prkW ++ [230, 149, 138, 18, 150, 76, 172, 222, 68, 142, 24, 39, 158, 173, 252, 217, 123, 112, 45, 113, 106, 113, 238, 181, 121, 175, 116, 236, 132, 188, 116, 30])).take 4 = [60, 178, 95, 37] := by decide +kernel
theorem prkV : extractV saltW ikmW = prkW := by
  rw [extractV, saltV, if_neg (by decide), hmacV, sha_eq, sha_eq, prk1, prk2]
theorem okm : ∃ tl, expandV prkW infoW 42 = 60 :: 178 :: 95 :: 37 :: tl := by
  have h1 : expL prkW infoW 1 = refV (outP prkW ++ [230, 149, 138, 18, 150, 76, 172, 222, 68, 142, 24, 39, 158, 173, 252, 217, 123, 112, 45, 113, 106, 113, 238, 181, 121, 175, 116, 236, 132, 188, 116, 30]) := by
    rw [expL, expL, hmacV, sha_eq, sha_eq, List.nil_append]
    exact congrArg (fun x => refV (outP prkW ++ x)) okm1
  have e := List.take_append_drop 4 (refV (outP prkW ++ [230, 149, 138, 18, 150, 76, 172, 222, 68, 142, 24, 39, 158, 173, 252, 217, 123, 112, 45, 113, 106, 113, 238, 181, 121, 175, 116, 236, 132, 188, 116, 30]))
  rw [okm2] at e
  have h2 : expO prkW infoW 2 = [60, 178, 95, 37] ++ ((refV (outP prkW ++ [230, 149, 138, 18, 150, 76, 172, 222, 68, 142, 24, 39, 158, 173, 252, 217, 123, 112, 45, 113, 106, 113, 238, 181, 121, 175, 116, 236, 132, 188, 116, 30])).drop 4 ++ expL prkW infoW 2) := by
    rw [expO, expO, expO, List.nil_append, h1, ← List.append_assoc, e]
  exact ⟨_, by rw [expandV, show (42 + 31) / 32 = 2 from rfl, h2]; rfl⟩

end Go.Proofs.Ytjcebkhhgdgohaa
namespace Go.Proofs.Ytjcebkhhgdgohaa
open Go Go.RowKit Go.Eng
theorem cf_30 : callable Try.prog 30 = true := by kernel_rfl
theorem cf_32 : callable Try.prog 32 = true := by kernel_rfl

theorem set_fill (k : Nat) (h : k < 22) : (List.replicate k 11 ++ List.replicate (22 - k) 0 : List UInt8).set k 11 = List.replicate (k + 1) 11 ++ List.replicate (22 - (k + 1)) 0 := by
  rw [List.set_append_right _ _ (by simp), List.length_replicate, Nat.sub_self, show 22 - k = (22 - (k + 1)) + 1 from by omega, List.replicate_succ, List.set_cons_zero, List.replicate_succ']
  simp

set_option maxRecDepth 100000 in
theorem wakesK_c (w0 : World) : Calls Try.prog 29 #[] w0 fun e w => e = .returned (.bool true) ∧ Fr No w0 w := by
  refine calls_of_WC (args := []) Try.func29 rfl Try.ntmps29 rfl ?_
  show WC _ _ _ _ [] _
  have hS := ST.start w0 No
  refine WC.seq ?_
  refine WC.region ?_
  refine WL.pv (pv_assign rfl) rfl ?_
  refine WL.nil ?_
  refine QN.thenW ?_
  refine WC.seq ?_
  refine WC.region ?_
  refine WL.makeB (c := 22) hS slT_22 zeroT_5 (by simp) rfl rfl (by omega) (by simp [maxLen]) rfl ?_
  intro bk w hbk hS
  rw [show (List.replicate 22 [b8 0]).flatten = bs8 (List.replicate 0 11 ++ List.replicate (22 - 0) 0) from by simp [bs8]] at hS
  refine WL.pv (pv_assign rfl) rfl ?_
  refine WL.nil ?_
  refine QN.thenW ?_
  refine WC.seq ?_
  refine WC.seq ?_
  refine WC.region ?_
  refine WL.pv (pv_move rfl) rfl ?_
  refine WL.pv (pv_len slS_22 rfl) rfl ?_
  refine WL.pv (pv_move rfl) rfl ?_
  refine WL.nil ?_
  refine QN.thenW ?_
  refine WC.block ?_
  refine WC.loop (α := Nat) (fun k => [(1, .slice (some ⟨bk, 0, none⟩) 22 22), (9, .int .i64 ((22 : Nat) : Int)), (10, .int .i64 (k : Int))]) (fun k w => k ≤ 22 ∧ ST w0 No w [.blk bk 5 (bs8 (List.replicate k 11 ++ List.replicate (22 - k) 0))]) (fun k => 22 - k) (0) (Sub.cons rfl (Sub.cons rfl (Sub.cons rfl Sub.nil))) ⟨by omega, hS⟩ ?_
  rintro k w N hN hR
  obtain ⟨hk, hS⟩ := hR
  refine WC.seq ?_
  refine WC.region ?_
  refine WL.pv (pv_lss rfl rfl) rfl ?_
  refine WL.nil ?_
  refine QN.thenW ?_
  refine WC.seq ?_
  refine WC.condD rfl (fun hc11 => ?_) (fun hc11 => ?_)
  · skip
    have hk22 : k < 22 := by omega
    refine WC.skip ?_
    refine QN.thenW ?_
    refine WC.seq ?_
    refine WC.block ?_
    refine WC.seq ?_
    refine WC.region ?_
    refine WL.pv (pv_move rfl) rfl ?_
    refine WL.pv (pv_assign rfl) rfl ?_
    refine WL.nil ?_
    refine QN.thenW ?_
    refine WC.region ?_
    refine WL.pv (pv_move rfl) rfl ?_
    refine WL.pv (pv_move rfl) rfl ?_
    refine WL.pv (pv_indexAddrS1Z slT_22 rfl rfl rfl (by omega)) rfl ?_
    refine WL.store (k := 0) hS sizeT_5 rfl rfl rfl rfl (by rw [bs8_len]; simp; omega) ?_
    intro w hS
    try simp only [List.set] at hS
    change ST w0 No w [.blk bk 5 ((bs8 (List.replicate k 11 ++ List.replicate (22 - k) 0)).set k (b8 11))] at hS
    rw [bs8_set, set_fill k hk22] at hS
    refine WL.nil ?_
    refine QN.blockN ?_
    refine QN.thenW ?_
    refine WC.region ?_
    refine WL.pv (pv_add rfl rfl (by omega)) rfl ?_
    refine WL.pv (pv_move rfl) rfl ?_
    refine WL.nil ?_
    refine QN.roundE ?_
    refine ⟨(k + 1), (Sub.cons rfl (Sub.cons rfl (Sub.cons rfl Sub.nil))), ⟨by omega, hS⟩, ?_⟩
    first | omega | (dsimp only; omega)
  · skip
    obtain rfl : k = 22 := by omega
    change ST w0 No w [.blk bk 5 (bs8 ikmW)] at hS
    refine WC.exit ?_
    refine QN.thenX ?_
    refine QN.thenX ?_
    refine QN.blockX ?_
    refine QN.thenW ?_
    refine WC.seq ?_
    refine WC.region ?_
    refine WL.buildV (parts := [(0, .const (.int .u8 0)), (1, .const (.int .u8 1)), (2, .const (.int .u8 2)), (3, .const (.int .u8 3)), (4, .const (.int .u8 4)), (5, .const (.int .u8 5)), (6, .const (.int .u8 6)), (7, .const (.int .u8 7)), (8, .const (.int .u8 8)), (9, .const (.int .u8 9)), (10, .const (.int .u8 10)), (11, .const (.int .u8 11)), (12, .const (.int .u8 12))]) (vs := [b8 0, b8 1, b8 2, b8 3, b8 4, b8 5, b8 6, b8 7, b8 8, b8 9, b8 10, b8 11, b8 12]) hS slT_22 zeroT_5 (by simp) rfl rfl rfl (by simp [Value.cells]) rfl rfl ?_
    intro bs w hbs hS
    change ST w0 No w [.blk bs 5 (bs8 saltW), .blk bk 5 (bs8 ikmW)] at hS
    refine WL.pv (pv_assign rfl) rfl ?_
    refine WL.nil ?_
    refine QN.thenW ?_
    refine WC.seq ?_
    refine WC.region ?_
    refine WL.buildV (parts := [(0, .const (.int .u8 240)), (1, .const (.int .u8 241)), (2, .const (.int .u8 242)), (3, .const (.int .u8 243)), (4, .const (.int .u8 244)), (5, .const (.int .u8 245)), (6, .const (.int .u8 246)), (7, .const (.int .u8 247)), (8, .const (.int .u8 248)), (9, .const (.int .u8 249))]) (vs := [b8 240, b8 241, b8 242, b8 243, b8 244, b8 245, b8 246, b8 247, b8 248, b8 249]) hS slT_22 zeroT_5 (by simp) rfl rfl rfl (by simp [Value.cells]) rfl rfl ?_
    intro bi w hbi hS
    change ST w0 No w [.blk bi 5 (bs8 infoW), .blk bs 5 (bs8 saltW), .blk bk 5 (bs8 ikmW)] at hS
    refine WL.pv (pv_assign rfl) rfl ?_
    refine WL.nil ?_
    refine QN.thenW ?_
    refine WC.seq ?_
    refine WC.region ?_
    refine WL.pv (pv_move rfl) rfl ?_
    refine WL.pv (pv_move rfl) rfl ?_
    refine WL.call (args := [.tmp 20, .tmp 21]) cf_30 rfl rfl (extract_c _ _ 13 13 22 22 saltW ikmW _ (Bk.rsAll (hS.bk (k := 1) rfl) rfl (by simp [maxLen])) (Bk.rsAll (hS.bk (k := 2) rfl) rfl (by simp [maxLen]))) ?_
    rintro _ w ⟨rfl, hF⟩
    refine ⟨_, rfl, ?_⟩
    replace hS := hS.no hF
    rw [prkV]
    refine WL.pv (pv_move rfl) rfl ?_
    refine WL.call (args := [.tmp 22, .tmp 23, .const (.int .i64 42)]) cf_32 rfl rfl (expand_c _ 10 10 42 prkW infoW _ rfl (Bk.rsAll (hS.bk (k := 0) rfl) rfl (by simp [maxLen])) (by decide) (by omega)) ?_
    rintro _ w ⟨v, rfl, hF, hv⟩
    refine ⟨_, rfl, ?_⟩
    replace hS := hS.no hF
    obtain ⟨tl, htl⟩ := okm
    have hl42 : (expandV prkW infoW 42).length = 42 := by rw [expandV, List.length_take, expO_len]; rfl
    obtain ⟨Av, mv, cv, rfl, _, _, _, _⟩ := id hv
    have hmv := hv.len
    rw [bs8_len, hl42] at hmv
    obtain rfl : mv = 42 := by omega
    obtain ⟨bv, ov, rfl, _, _, _, hcv⟩ := hv.at_ (by rw [bs8_len, hl42]; omega)
    rw [htl] at hcv
    refine WL.pv (pv_move rfl) rfl ?_
    refine WL.pv (pv_extract rfl rfl) rfl ?_
    refine WL.pv (pv_extract rfl rfl) rfl ?_
    refine WL.pv (pv_assign rfl) rfl ?_
    refine WL.pv (pv_assign rfl) rfl ?_
    refine WL.nil ?_
    refine QN.thenW ?_
    refine WC.seq ?_
    refine WC.region ?_
    refine WL.pv (pv_move rfl) rfl ?_
    refine WL.pv (pv_eql rfl rfl) rfl ?_
    refine WL.pv (pv_move rfl) rfl ?_
    refine WL.guardT rfl rfl rfl (lkT rfl (by decide)) ?_
    refine WL.pv (pv_move rfl) rfl ?_
    refine WL.guardT rfl rfl rfl (lkT rfl (by decide)) ?_
    refine WL.pv (pv_len slS_22 rfl) rfl ?_
    refine WL.guardT rfl rfl rfl (lkT rfl (by decide)) ?_
    refine WL.pv (pv_eql rfl rfl) rfl ?_
    refine WL.pv (pv_pick1 (lkT rfl (by decide)) rfl) rfl ?_
    refine WL.pv (pv_move rfl) rfl ?_
    refine WL.guardT rfl rfl rfl (lkT rfl (by decide)) ?_
    refine WL.pv (pv_move rfl) rfl ?_
    refine WL.guardT rfl rfl rfl (lkT rfl (by decide)) ?_
    refine WL.pv (pv_indexAddrS1 (j := 0) slT_22 rfl rfl rfl (by omega)) rfl ?_
    refine WL.guardT rfl rfl rfl (lkT rfl (by decide)) ?_
    refine WL.rv (rv_load oneT_5 rfl (hcv 0 _ rfl)) rfl ?_
    refine WL.guardT rfl rfl rfl (lkT rfl (by decide)) ?_
    refine WL.pv (pv_eql rfl rfl) rfl ?_
    refine WL.pv (pv_pick1 (lkT rfl (by decide)) rfl) rfl ?_
    refine WL.pv (pv_move rfl) rfl ?_
    refine WL.guardT rfl rfl rfl (lkT rfl (by decide)) ?_
    refine WL.pv (pv_move rfl) rfl ?_
    refine WL.guardT rfl rfl rfl (lkT rfl (by decide)) ?_
    refine WL.pv (pv_indexAddrS1 (j := 1) slT_22 rfl rfl rfl (by omega)) rfl ?_
    refine WL.guardT rfl rfl rfl (lkT rfl (by decide)) ?_
    refine WL.rv (rv_load oneT_5 rfl (hcv 1 _ rfl)) rfl ?_
    refine WL.guardT rfl rfl rfl (lkT rfl (by decide)) ?_
    refine WL.pv (pv_eql rfl rfl) rfl ?_
    refine WL.pv (pv_pick1 (lkT rfl (by decide)) rfl) rfl ?_
    refine WL.pv (pv_move rfl) rfl ?_
    refine WL.guardT rfl rfl rfl (lkT rfl (by decide)) ?_
    refine WL.pv (pv_move rfl) rfl ?_
    refine WL.guardT rfl rfl rfl (lkT rfl (by decide)) ?_
    refine WL.pv (pv_indexAddrS1 (j := 2) slT_22 rfl rfl rfl (by omega)) rfl ?_
    refine WL.guardT rfl rfl rfl (lkT rfl (by decide)) ?_
    refine WL.rv (rv_load oneT_5 rfl (hcv 2 _ rfl)) rfl ?_
    refine WL.guardT rfl rfl rfl (lkT rfl (by decide)) ?_
    refine WL.pv (pv_eql rfl rfl) rfl ?_
    refine WL.pv (pv_pick1 (lkT rfl (by decide)) rfl) rfl ?_
    refine WL.pv (pv_move rfl) rfl ?_
    refine WL.guardT rfl rfl rfl (lkT rfl (by decide)) ?_
    refine WL.pv (pv_move rfl) rfl ?_
    refine WL.guardT rfl rfl rfl (lkT rfl (by decide)) ?_
    refine WL.pv (pv_indexAddrS1 (j := 3) slT_22 rfl rfl rfl (by omega)) rfl ?_
    refine WL.guardT rfl rfl rfl (lkT rfl (by decide)) ?_
    refine WL.rv (rv_load oneT_5 rfl (hcv 3 _ rfl)) rfl ?_
    refine WL.guardT rfl rfl rfl (lkT rfl (by decide)) ?_
    refine WL.pv (pv_eql rfl rfl) rfl ?_
    refine WL.pv (pv_pick1 (lkT rfl (by decide)) rfl) rfl ?_
    refine WL.pv (pv_assign rfl) rfl ?_
    refine WL.nil ?_
    refine QN.thenW ?_
    refine WC.ret ?_
    refine QN.ret1 rfl rfl ?_
    exact ⟨rfl, hS.fr⟩

end Go.Proofs.Ytjcebkhhgdgohaa
