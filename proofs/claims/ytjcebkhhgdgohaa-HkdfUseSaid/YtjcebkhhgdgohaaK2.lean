/- What a few functions of the program compute, part K2. -/
import Derived.Test.YtjcebkhhgdgohaaK1
import Derived.Test.YtjcebkhhgdgohaaEngU
namespace Go.Proofs.Ytjcebkhhgdgohaa
open Go Go.RowKit Go.Eng


/-- What Expand has behind i rounds: the last block, all blocks. -/
def expL (key info : List UInt8) : Nat → List UInt8
  | 0 => []
  | i + 1 => hmacV key (expL key info i ++ info ++ [UInt8.ofNat (i + 1)])
def expO (key info : List UInt8) : Nat → List UInt8
  | 0 => []
  | i + 1 => expO key info i ++ expL key info (i + 1)
theorem expL_len (key info : List UInt8) (i : Nat) : (expL key info (i + 1)).length = 32 := hmacV_len _ _
theorem expL_le (key info : List UInt8) (i : Nat) : (expL key info i).length ≤ 32 := by cases i with | zero => simp [expL] | succ i => rw [expL_len]; omega
theorem expO_len (key info : List UInt8) (i : Nat) : (expO key info i).length = 32 * i := by
  induction i with
  | zero => rfl
  | succ i ih => rw [expO, List.length_append, ih, expL_len]; omega
/-- So many bytes of a key. -/
def expandV (key info : List UInt8) (n : Nat) : List UInt8 := (expO key info ((n + 31) / 32)).take n

set_option maxRecDepth 100000 in
theorem join_c (A B : Option Addr) (m c m2 c2 : Nat) (a b : List UInt8) (w0 : World) (ha : Rs w0 (.slice A m c) 1 (bs8 a)) (hb : Rs w0 (.slice B m2 c2) 1 (bs8 b)) (hn : a.length + b.length ≤ 60000) : Calls Try.prog 64 #[.slice A m c, .slice B m2 c2] w0 (OwnPost (bs8 (a ++ b)) 5 w0) := by
  refine calls_of_WC (args := [.slice A m c, .slice B m2 c2]) Try.func64 rfl Try.ntmps64 rfl ?_
  show WC _ _ _ _ [(0, .slice A m c), (1, .slice B m2 c2)] _
  have hS := ST.start w0 No
  refine WC.seq ?_
  refine WC.region ?_
  refine WL.pv (pv_assign rfl) rfl ?_
  refine WL.nil ?_
  refine QN.thenW ?_
  refine WC.seq ?_
  refine WC.region ?_
  refine WL.pv (pv_assign rfl) rfl ?_
  refine WL.nil ?_
  refine QN.thenW ?_
  refine WC.seq ?_
  replace hS := hS.addNil 5 1
  refine WC.region ?_
  refine WL.pv (pv_move rfl) rfl ?_
  refine WL.pv (pv_move rfl) rfl ?_
  refine WL.append (k := 0) (N := 65536) hS slT_22 zlenT_5 (by decide) rfl rfl rfl (ha.no hS.fr) bs8_one (by simp [bs8_len]; omega) (by omega) (by simp [maxLen]) rfl ?_
  intro v1 w hFr8 hS
  try simp only [List.set] at hS
  refine WL.pv (pv_assign rfl) rfl ?_
  refine WL.nil ?_
  refine QN.thenW ?_
  refine WC.seq ?_
  refine WC.region ?_
  refine WL.pv (pv_move rfl) rfl ?_
  refine WL.pv (pv_move rfl) rfl ?_
  refine WL.append (k := 0) (N := 65536) hS slT_22 zlenT_5 (by decide) rfl rfl rfl (hb.no hS.fr) bs8_one (by simp [bs8_len]; omega) (by omega) (by simp [maxLen]) rfl ?_
  intro v2 w hFr11 hS
  try simp only [List.set] at hS
  rw [List.nil_append, ← bs8_app] at hS
  refine WL.pv (pv_assign rfl) rfl ?_
  refine WL.nil ?_
  refine QN.thenW ?_
  refine WC.seq ?_
  refine WC.region ?_
  refine WL.pv (pv_move rfl) rfl ?_
  refine WL.pv (pv_assign rfl) rfl ?_
  refine WL.nil ?_
  refine QN.thenW ?_
  refine WC.ret ?_
  refine QN.ret1 rfl rfl ?_
  exact ⟨_, rfl, hS.fr, hS.rw_ (k := 0) rfl, fun b hb => (hS.own' (i := 0) rfl hb).resolve_right (fun h => h)⟩


theorem rs_cap {w : World} {A : Option Addr} {n c : Nat} {l : List UInt8} (h : Rs w (.slice A n c) 1 (bs8 l)) (hn : n ≤ maxLen) : Rs w (.slice (if n = 0 then A else A.map (·.add (0 * 1))) (n - 0) (n - 0)) 1 (bs8 l) := by
  obtain ⟨A', n', c', he, h1, h2, h3, h4⟩ := h
  injection he with e1 e2 e3; subst e1; subst e2; subst e3
  refine ⟨_, _, _, rfl, Nat.le_refl _, hn, h3, ?_⟩
  rcases h4 with h4 | ⟨b, o, rfl, h4⟩
  · exact .inl h4
  · refine .inr ⟨b, o, ?_, h4⟩
    split
    · rfl
    · simp [Addr.add]
def ExpPost (key info : List UInt8) (n : Nat) (w0 : World) (e : Ending) (w : World) : Prop := ∃ v, e = .returned (.tuple #[v, .int .i64 0]) ∧ Fr No w0 w ∧ Rs w v 1 (bs8 (expandV key info n))
theorem expand_stop (key info : List UInt8) (k n : Nat) (h1 : n ≤ 32 * k) (h2 : 32 * k < n + 32) : (expO key info k).take n = expandV key info n := by rw [expandV, show (n + 31) / 32 = k from by omega]

set_option maxHeartbeats 1000000 in
set_option maxRecDepth 100000 in
theorem expand_c (B : Option Addr) (m2 c2 n : Nat) (key info : List UInt8) (w0 : World) (hkl : key.length = 32) (hi : Rs w0 (.slice B m2 c2) 1 (bs8 info)) (hil : info.length ≤ 60000) (hn : n ≤ 8160) : Calls Try.prog 32 #[.agg (bs8 key).toArray, .slice B m2 c2, .int .i64 (n : Int)] w0 (ExpPost key info n w0) := by
  refine calls_of_WC (args := [.agg (bs8 key).toArray, .slice B m2 c2, .int .i64 (n : Int)]) Try.func32 rfl Try.ntmps32 rfl ?_
  show WC _ _ _ _ [(0, .agg (bs8 key).toArray), (1, .slice B m2 c2), (2, .int .i64 (n : Int))] _
  have hS := ST.start w0 No
  refine WC.seq ?_
  refine WC.region ?_
  refine WL.box (vs := bs8 key) hS rfl rfl rfl ?_
  intro b3 w hb3 hS
  refine WL.pv (pv_assign rfl) rfl ?_
  refine WL.pv (pv_assign rfl) rfl ?_
  refine WL.nil ?_
  refine QN.thenW ?_
  refine WC.seq ?_
  refine WC.seq ?_
  refine WC.region ?_
  refine WL.pv (pv_move rfl) rfl ?_
  refine WL.pv (pv_lss rfl rfl) rfl ?_
  refine WL.pv (pv_move rfl) rfl ?_
  refine WL.guardT rfl rfl rfl (lkF rfl (by omega)) ?_
  refine WL.pv (pv_move rfl) rfl ?_
  refine WL.guardT rfl rfl rfl (lkF rfl (by omega)) ?_
  refine WL.pv (pv_gtr rfl rfl) rfl ?_
  refine WL.pv (pv_pick0 (lkF rfl (by omega)) rfl) rfl ?_
  refine WL.nil ?_
  refine QN.thenW ?_
  refine WC.condDF rfl (by omega) ?_
  refine WC.skip ?_
  refine QN.thenW ?_
  refine WC.seq ?_
  refine WC.region ?_
  refine WL.pv (pv_assign rfl) rfl ?_
  refine WL.pv (pv_assign rfl) rfl ?_
  refine WL.nil ?_
  refine QN.thenW ?_
  refine WC.seq ?_
  refine WC.seq ?_
  refine WC.region ?_
  refine WL.pv (pv_assign rfl) rfl ?_
  refine WL.nil ?_
  refine QN.thenW ?_
  refine WC.block ?_
  refine WC.loop (α := Nat × Value × Value) (fun s => [(1, .slice B m2 c2), (2, .int .i64 (n : Int)), (3, .pointer (some ⟨b3, 0, none⟩)), (8, s.2.1), (9, s.2.2), (10, b8 (UInt8.ofNat (s.1 + 1)))]) (fun s w => 32 * s.1 < n + 32 ∧ Els w (Ours [.row s.2.1 5 1 (bs8 (expO key info s.1)), .blk b3 25 (bs8 key)]) [s.2.2] [expL key info s.1] ∧ ST w0 No w [.row s.2.1 5 1 (bs8 (expO key info s.1)), .blk b3 25 (bs8 key)]) (fun s => n + 32 - 32 * s.1) ((0, .slice none 0 0, .slice none 0 0)) (Sub.cons rfl (Sub.cons rfl (Sub.cons rfl (Sub.cons rfl (Sub.cons rfl (Sub.cons rfl Sub.nil)))))) ⟨by show 32 * 0 < n + 32; omega, Els.add Els.nil ⟨none, 0, 0, rfl, Nat.le_refl _, by simp [maxLen], by simp [bs8, expL], .inl rfl⟩ (fun h => by simp [expL] at h), hS.addNil 5 1⟩ ?_
  rintro ⟨k, v8, v9⟩ w N hN hR
  change N = n + 32 - 32 * k at hN
  change 32 * k < n + 32 ∧ Els w (Ours [.row v8 5 1 (bs8 (expO key info k)), .blk b3 25 (bs8 key)]) [v9] [expL key info k] ∧ ST w0 No w [.row v8 5 1 (bs8 (expO key info k)), .blk b3 25 (bs8 key)] at hR
  show WC _ _ _ _ [(1, .slice B m2 c2), (2, .int .i64 (n : Int)), (3, .pointer (some ⟨b3, 0, none⟩)), (8, v8), (9, v9), (10, b8 (UInt8.ofNat (k + 1)))] _
  obtain ⟨hk0, hE, hS⟩ := hR
  obtain ⟨A8, m8, c8, rfl, hm8, hc8, hmx8⟩ := (hS.rw_ (k := 0) rfl).anyForm
  rw [bs8_len, expO_len, Nat.mul_one] at hm8
  refine WC.seq ?_
  refine WC.seq ?_
  refine WC.region ?_
  refine WL.pv (pv_move rfl) rfl ?_
  refine WL.pv (pv_len slS_22 rfl) rfl ?_
  refine WL.pv (pv_move rfl) rfl ?_
  refine WL.pv (pv_lss rfl rfl) rfl ?_
  refine WL.nil ?_
  refine QN.thenW ?_
  refine WC.condD rfl (fun hc22 => ?_) (fun hc22 => ?_)
  · skip
    have hO := hS
    replace hS := hO.base
    have hle := expL_le key info k
    have hsub : some (b8 (UInt8.ofNat (k + 1) + 1)) = some (b8 (UInt8.ofNat (k + 1 + 1))) := by congr 2; apply UInt8.toNat_inj.1; simp
    refine WC.skip ?_
    refine QN.thenW ?_
    refine WC.seq ?_
    refine WC.block ?_
    refine WC.seq ?_
    refine WC.region ?_
    refine WL.build0 hS slT_22 rfl ?_
    intro r25 w hr25 hS
    refine WL.pv (pv_move rfl) rfl ?_
    refine WL.append (k := 0) (N := 65536) hS slT_22 zlenT_5 (by decide) rfl rfl rfl ((hE.step hS).2 0 (by simp) (by simp)).1 bs8_one (by simp [bs8_len]; omega) (by omega) (by simp [maxLen]) rfl ?_
    intro v27 w hFr27 hS
    try simp only [List.set] at hS
    refine WL.pv (pv_move rfl) rfl ?_
    refine WL.append (k := 0) (N := 65536) hS slT_22 zlenT_5 (by decide) rfl rfl rfl ((hi.no hO.fr).frN hS.fr (fun h0 b hb => hO.notOurs hi h0 hb)) bs8_one (by simp [bs8_len]; omega) (by omega) (by simp [maxLen]) rfl ?_
    intro v29 w hFr29 hS
    try simp only [List.set] at hS
    refine WL.pv (pv_move rfl) rfl ?_
    refine WL.build1 hS slT_22 zeroT_5 rfl rfl rfl rfl ?_
    intro b31 w hb31 hS
    refine WL.append (k := 1) (N := 65536) hS slT_22 zlenT_5 (by decide) rfl rfl rfl ((hS.bk (k := 0) rfl).rs 0 1 1 1 (by omega) (by simp [maxLen]) (by simp)) (by simp [Value.oneCell']) (by simp [bs8_len]; omega) (by omega) (by simp [maxLen]) rfl ?_
    intro v32 w hFr32 hS
    try simp only [List.set] at hS
    rw [List.nil_append, ← bs8_app, show List.take (1 * 1) (List.drop 0 [b8 (UInt8.ofNat (k + 1))]) = bs8 [UInt8.ofNat (k + 1)] from rfl, ← bs8_app] at hS
    obtain ⟨A3, m3, c3, rfl, _, _, _⟩ := (hS.rw_ (k := 1) rfl).anyForm
    refine WL.pv (pv_assign rfl) rfl ?_
    refine WL.nil ?_
    refine QN.thenW ?_
    refine WC.seq ?_
    refine WC.region ?_
    refine WL.pv (pv_sliceW arrT_25 rfl) rfl ?_
    refine WL.pv (pv_move rfl) rfl ?_
    refine WL.call (args := [.tmp 33, .tmp 34]) cf_26 rfl rfl (tag_c _ _ _ _ _ _ key _ _ (Bk.rsAll (hS.bk (k := 3) rfl) hkl (by simp [maxLen])) (hS.rw_ (k := 1) rfl).rs) ?_
    rintro _ w ⟨rfl, hF⟩
    refine ⟨_, rfl, ?_⟩
    replace hS := hS.no hF
    change WL _ _ _ _ _ ((35, .agg (bs8 (expL key info (k + 1))).toArray) :: _) _
    refine WL.alloc hS zeroT_25 rfl ?_
    intro b12 w hb12 hS
    refine WL.storeAll (k := 0) (vs := bs8 (expL key info (k + 1))) hS (by rw [sizeT_25, bs8_len, expL_len]) rfl rfl rfl bs8_one (by simp [bs8_len, expL_len]) ?_
    intro w hS
    try simp only [List.set] at hS
    refine WL.nil ?_
    refine QN.thenW ?_
    refine WC.seq ?_
    refine WC.region ?_
    refine WL.pv (pv_sliceW arrT_25 rfl) rfl ?_
    refine WL.pv (pv_assign rfl) rfl ?_
    refine WL.nil ?_
    refine QN.thenW ?_
    refine WC.region ?_
    refine WL.pv (pv_move rfl) rfl ?_
    refine WL.pv (pv_move rfl) rfl ?_
    refine WL.append (k := 3) (N := 65536) hS slT_22 zlenT_5 (by decide) rfl rfl rfl (Bk.rsAll (hS.bk (k := 0) rfl) (expL_len _ _ _) (by simp [maxLen])) bs8_one (by simp [bs8_len, expL_len, expO_len]; omega) (by omega) (by simp [maxLen]) rfl ?_
    intro v39 w hFr39 hS
    try simp only [List.set] at hS
    rw [← bs8_app] at hS
    have hSv := (hS.erase 1).erase 1
    simp only [List.eraseIdx_zero, List.eraseIdx_cons_succ, List.tail_cons] at hSv
    have hS3 : ST _ _ w [.row v39 5 1 (bs8 (expO key info (k + 1))), .blk b3 25 (bs8 key)] := hSv.drop
    have hS4 := hO.rebase hS3
    have hE5 : Els w (Ours [.row v39 5 1 (bs8 (expO key info (k + 1))), .blk b3 25 (bs8 key)]) [.slice (some ⟨b12, 0, none⟩) 32 32] [expL key info (k + 1)] := Els.add Els.nil (Bk.rsAll (hSv.bk (k := 0) rfl) (expL_len _ _ _) (by simp [maxLen])) (fun _ b hb hN => by
      obtain ⟨e, he, hbe⟩ := hN
      obtain rfl : b12 = b := by simpa [Value.ownBlock] using hb
      simp only [List.mem_cons, List.not_mem_nil, or_false] at he
      rcases he with rfl | rfl
      · exact hSv.apart (i := 0) (j := 1) rfl rfl (by omega) (b := b12) rfl hbe
      · exact hSv.apart (i := 0) (j := 2) rfl rfl (by omega) (b := b12) rfl hbe)
    clear hS
    have hS := hS4
    refine WL.pv (pv_assign rfl) rfl ?_
    refine WL.nil ?_
    refine QN.blockN ?_
    refine QN.thenW ?_
    refine WC.region ?_
    refine WL.pv (pv_move rfl) rfl ?_
    refine WL.pv (pv_add8 (b := 1) rfl rfl) rfl ?_
    refine WL.pv (pv_assign rfl) rfl ?_
    refine WL.nil ?_
    refine QN.roundE ?_
    refine ⟨((k + 1, v39, _)), (Sub.cons rfl (Sub.cons rfl (Sub.cons rfl (Sub.cons rfl (Sub.cons rfl (Sub.cons hsub Sub.nil)))))), ⟨by show 32 * (k + 1) < n + 32; omega, hE5, hS⟩, ?_⟩
    first | omega | (dsimp only; omega)
  · skip
    refine WC.exit ?_
    refine QN.thenX ?_
    refine QN.thenX ?_
    refine QN.blockX ?_
    refine QN.thenW ?_
    refine WC.seq ?_
    refine WC.region ?_
    refine WL.pv (pv_move rfl) rfl ?_
    refine WL.pv (pv_move rfl) rfl ?_
    refine WL.pv (pv_move rfl) rfl ?_
    refine WL.pv (pv_sliceS (a := 0) (b := n) (c := n) slT_22 rfl rfl rfl rfl rfl rfl rfl (by simp) (Nat.zero_le _) (Nat.le_refl _) (by omega)) rfl ?_
    refine WL.pv (pv_assign rfl) rfl ?_
    refine WL.pv (pv_assign rfl) rfl ?_
    refine WL.nil ?_
    refine QN.thenW ?_
    refine WC.ret ?_
    refine QN.ret2 rfl rfl rfl ?_
    refine ⟨_, rfl, hS.fr, ?_⟩
    rw [← expand_stop key info k n (by omega) hk0]
    exact rs_cap ((hS.rw_ (k := 0) rfl).rs.cutH8 (b := n) (by omega)) (by simp only [maxLen]; omega)

end Go.Proofs.Ytjcebkhhgdgohaa
