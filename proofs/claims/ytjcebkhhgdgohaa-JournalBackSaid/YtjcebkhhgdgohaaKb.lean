/- More on the functions of keys from a key. -/
import Derived.Test.YtjcebkhhgdgohaaKa
namespace Go.Proofs.Ytjcebkhhgdgohaa
open Go Go.RowKit Go.Eng
theorem cf_29 : callable Try.prog 29 = true := by kernel_rfl
theorem cf_31 : callable Try.prog 31 = true := by kernel_rfl
theorem cf_64 : callable Try.prog 64 = true := by kernel_rfl
set_option maxRecDepth 100000 in
theorem hkdfExtract_c (A B : Option Addr) (m c m2 c2 : Nat) (salt text : List UInt8) (w0 : World) (hk : Rs w0 (.slice A m c) 1 (bs8 salt)) (ht : Rs w0 (.slice B m2 c2) 1 (bs8 text)) : Calls Try.prog 10 #[.slice A m c, .slice B m2 c2] w0 fun e w => e = .returned (.bool true) ∧ Fr No w0 w := by
  have hln := hk.len
  rw [bs8_len] at hln
  have hln2 := ht.len
  rw [bs8_len] at hln2
  have hmx : m ≤ 9223372036854775807 := by have := hln; simp only [maxLen] at this; omega
  have hmx2 : m2 ≤ 9223372036854775807 := by have := hln2; simp only [maxLen] at this; omega
  refine calls_of_WC (args := [.slice A m c, .slice B m2 c2]) Try.func10 rfl Try.ntmps10 rfl ?_
  show WC _ _ _ _ [(0, .slice A m c), (1, .slice B m2 c2)] _
  have hS := ST.start w0 No
  refine WC.seq ?_
  refine WC.region ?_
  refine WL.pv (pv_assign rfl) rfl ?_
  refine WL.nil ?_
  refine QN.thenW ?_
  refine WC.seq ?_
  refine WC.seq ?_
  refine WC.region ?_
  refine WL.call (args := []) cf_29 rfl rfl (wakesK_c _) ?_
  rintro _ w ⟨rfl, hF⟩
  refine ⟨_, rfl, ?_⟩
  replace hS := hS.no hF
  refine WL.pv (pv_not rfl) rfl ?_
  refine WL.nil ?_
  refine QN.thenW ?_
  refine WC.condF rfl rfl ?_
  refine WC.skip ?_
  refine QN.thenW ?_
  refine WC.seq ?_
  refine WC.seq ?_
  by_cases h300 : m ≤ 300
  · skip
    refine WC.region ?_
    refine WL.pv (pv_move rfl) rfl ?_
    refine WL.pv (pv_len slS_22 rfl) rfl ?_
    refine WL.pv (pv_gtr rfl rfl) rfl ?_
    refine WL.pv (pv_move rfl) rfl ?_
    refine WL.guardT rfl rfl rfl (lkF rfl (by omega)) ?_
    refine WL.pv (pv_move rfl) rfl ?_
    refine WL.guardT rfl rfl rfl (lkF rfl (by omega)) ?_
    refine WL.pv (pv_len slS_22 rfl) rfl ?_
    refine WL.guardT rfl rfl rfl (lkF rfl (by omega)) ?_
    refine WL.pv (pv_gtr rfl rfl) rfl ?_
    refine WL.pv (pv_pick0 (lkF rfl (by omega)) rfl) rfl ?_
    refine WL.nil ?_
    refine QN.thenW ?_
    refine WC.condD rfl (fun hc14 => ?_) (fun hc14 => ?_)
    · skip
      refine WC.seq ?_
      refine WC.region ?_
      refine WL.pv (pv_assign rfl) rfl ?_
      refine WL.nil ?_
      refine QN.thenW ?_
      refine WC.ret ?_
      refine QN.thenR ?_
      refine QN.ret1 rfl rfl ?_
      exact ⟨by simp, hS.fr⟩
    · skip
      refine WC.skip ?_
      refine QN.thenW ?_
      refine WC.seq ?_
      refine WC.region ?_
      refine WL.pv (pv_move rfl) rfl ?_
      refine WL.pv (pv_move rfl) rfl ?_
      refine WL.call (args := [.tmp 15, .tmp 16]) cf_30 rfl rfl (extract_c _ _ _ _ _ _ salt text _ (hk.no hS.fr) (ht.no hS.fr)) ?_
      rintro _ w ⟨rfl, hF⟩
      refine ⟨_, rfl, ?_⟩
      replace hS := hS.no hF
      refine WL.pv (pv_move rfl) rfl ?_
      refine WL.pv (pv_move rfl) rfl ?_
      refine WL.call (args := [.tmp 18, .tmp 19]) cf_31 rfl rfl (refExtract_c _ _ _ _ _ _ salt text _ (hk.no hS.fr) (ht.no hS.fr) (by omega) (by omega)) ?_
      rintro _ w ⟨rfl, hF⟩
      refine ⟨_, rfl, ?_⟩
      replace hS := hS.no hF
      refine WL.pv (pv_eqlA8 Try.underlying25 Try.underlying5 cellsT_5 eqgT_25 rfl rfl (extractV_len _ _) (extractV_len _ _)) rfl ?_
      refine WL.pv (pv_assign rfl) rfl ?_
      refine WL.nil ?_
      refine QN.thenW ?_
      refine WC.ret ?_
      refine QN.ret1 rfl rfl ?_
      exact ⟨by simp, hS.fr⟩
  · skip
    refine WC.region ?_
    refine WL.pv (pv_move rfl) rfl ?_
    refine WL.pv (pv_len slS_22 rfl) rfl ?_
    refine WL.pv (pv_gtr rfl rfl) rfl ?_
    refine WL.pv (pv_move rfl) rfl ?_
    refine WL.guardF rfl rfl rfl (lkT rfl (by omega)) rfl rfl ?_
    refine WL.guardF rfl rfl rfl (lkT rfl (by omega)) rfl rfl ?_
    refine WL.guardF rfl rfl rfl (lkT rfl (by omega)) rfl rfl ?_
    refine WL.pv (pv_pick1 (lkT rfl (by omega)) rfl) rfl ?_
    refine WL.nil ?_
    refine QN.thenW ?_
    refine WC.condT rfl rfl ?_
    refine WC.seq ?_
    refine WC.region ?_
    refine WL.pv (pv_assign rfl) rfl ?_
    refine WL.nil ?_
    refine QN.thenW ?_
    refine WC.ret ?_
    refine QN.thenR ?_
    refine QN.ret1 rfl rfl ?_
    exact ⟨by simp, hS.fr⟩

set_option maxRecDepth 100000 in
theorem expandNo_c (B : Option Addr) (m2 c2 : Nat) (n : Int) (key : List UInt8) (w0 : World) (hn : n < 0 ∨ 8160 < n) : Calls Try.prog 32 #[.agg (bs8 key).toArray, .slice B m2 c2, .int .i64 n] w0 fun e w => e = .returned (.tuple #[.slice none 0 0, .int .i64 14]) ∧ Fr No w0 w := by
  refine calls_of_WC (args := [.agg (bs8 key).toArray, .slice B m2 c2, .int .i64 n]) Try.func32 rfl Try.ntmps32 rfl ?_
  show WC _ _ _ _ [(0, .agg (bs8 key).toArray), (1, .slice B m2 c2), (2, .int .i64 n)] _
  have hS := ST.start w0 No
  refine WC.seq ?_
  refine WC.region ?_
  refine WL.box (vs := bs8 key) hS rfl rfl rfl ?_
  intro b3 w hb3 hS
  refine WL.pv (pv_assign rfl) rfl ?_
  refine WL.pv (pv_assign rfl) rfl ?_
  refine WL.nil ?_
  refine QN.thenW ?_
  refine WC.seq ?_
  refine WC.seq ?_
  by_cases hneg : n < 0
  · skip
    refine WC.region ?_
    refine WL.pv (pv_move rfl) rfl ?_
    refine WL.pv (pv_lss rfl rfl) rfl ?_
    refine WL.pv (pv_move rfl) rfl ?_
    refine WL.guardF rfl rfl rfl (lkT rfl (by omega)) rfl rfl ?_
    refine WL.guardF rfl rfl rfl (lkT rfl (by omega)) rfl rfl ?_
    refine WL.pv (pv_pick1 (lkT rfl (by omega)) rfl) rfl ?_
    refine WL.nil ?_
    refine QN.thenW ?_
    refine WC.condT rfl rfl ?_
    refine WC.seq ?_
    refine WC.region ?_
    refine WL.pv (pv_assign rfl) rfl ?_
    refine WL.pv (pv_assign rfl) rfl ?_
    refine WL.nil ?_
    refine QN.thenW ?_
    refine WC.ret ?_
    refine QN.thenR ?_
    refine QN.ret2 rfl rfl rfl ?_
    exact ⟨rfl, hS.fr⟩
  · skip
    refine WC.region ?_
    refine WL.pv (pv_move rfl) rfl ?_
    refine WL.pv (pv_lss rfl rfl) rfl ?_
    refine WL.pv (pv_move rfl) rfl ?_
    refine WL.guardT rfl rfl rfl (lkF rfl (by omega)) ?_
    refine WL.pv (pv_move rfl) rfl ?_
    refine WL.guardT rfl rfl rfl (lkF rfl (by omega)) ?_
    refine WL.pv (pv_gtr rfl rfl) rfl ?_
    refine WL.pv (pv_pick0 (lkF rfl (by omega)) rfl) rfl ?_
    refine WL.nil ?_
    refine QN.thenW ?_
    refine WC.condDT rfl (by omega) ?_
    refine WC.seq ?_
    refine WC.region ?_
    refine WL.pv (pv_assign rfl) rfl ?_
    refine WL.pv (pv_assign rfl) rfl ?_
    refine WL.nil ?_
    refine QN.thenW ?_
    refine WC.ret ?_
    refine QN.thenR ?_
    refine QN.ret2 rfl rfl rfl ?_
    exact ⟨rfl, hS.fr⟩

set_option maxRecDepth 100000 in
theorem refExpandNo_c (B : Option Addr) (m2 c2 : Nat) (n : Int) (key : List UInt8) (w0 : World) (hn : n < 0 ∨ 8160 < n) : Calls Try.prog 33 #[.agg (bs8 key).toArray, .slice B m2 c2, .int .i64 n] w0 fun e w => e = .returned (.tuple #[.slice none 0 0, .int .i64 14]) ∧ Fr No w0 w := by
  refine calls_of_WC (args := [.agg (bs8 key).toArray, .slice B m2 c2, .int .i64 n]) Try.func33 rfl Try.ntmps33 rfl ?_
  show WC _ _ _ _ [(0, .agg (bs8 key).toArray), (1, .slice B m2 c2), (2, .int .i64 n)] _
  have hS := ST.start w0 No
  refine WC.seq ?_
  refine WC.region ?_
  refine WL.box (vs := bs8 key) hS rfl rfl rfl ?_
  intro b3 w hb3 hS
  refine WL.pv (pv_assign rfl) rfl ?_
  refine WL.pv (pv_assign rfl) rfl ?_
  refine WL.nil ?_
  refine QN.thenW ?_
  refine WC.seq ?_
  refine WC.seq ?_
  by_cases hneg : n < 0
  · skip
    refine WC.region ?_
    refine WL.pv (pv_move rfl) rfl ?_
    refine WL.pv (pv_lss rfl rfl) rfl ?_
    refine WL.pv (pv_move rfl) rfl ?_
    refine WL.guardF rfl rfl rfl (lkT rfl (by omega)) rfl rfl ?_
    refine WL.guardF rfl rfl rfl (lkT rfl (by omega)) rfl rfl ?_
    refine WL.pv (pv_pick1 (lkT rfl (by omega)) rfl) rfl ?_
    refine WL.nil ?_
    refine QN.thenW ?_
    refine WC.condT rfl rfl ?_
    refine WC.seq ?_
    refine WC.region ?_
    refine WL.pv (pv_assign rfl) rfl ?_
    refine WL.pv (pv_assign rfl) rfl ?_
    refine WL.nil ?_
    refine QN.thenW ?_
    refine WC.ret ?_
    refine QN.thenR ?_
    refine QN.ret2 rfl rfl rfl ?_
    exact ⟨rfl, hS.fr⟩
  · skip
    refine WC.region ?_
    refine WL.pv (pv_move rfl) rfl ?_
    refine WL.pv (pv_lss rfl rfl) rfl ?_
    refine WL.pv (pv_move rfl) rfl ?_
    refine WL.guardT rfl rfl rfl (lkF rfl (by omega)) ?_
    refine WL.pv (pv_move rfl) rfl ?_
    refine WL.guardT rfl rfl rfl (lkF rfl (by omega)) ?_
    refine WL.pv (pv_gtr rfl rfl) rfl ?_
    refine WL.pv (pv_pick0 (lkF rfl (by omega)) rfl) rfl ?_
    refine WL.nil ?_
    refine QN.thenW ?_
    refine WC.condDT rfl (by omega) ?_
    refine WC.seq ?_
    refine WC.region ?_
    refine WL.pv (pv_assign rfl) rfl ?_
    refine WL.pv (pv_assign rfl) rfl ?_
    refine WL.nil ?_
    refine QN.thenW ?_
    refine WC.ret ?_
    refine QN.thenR ?_
    refine QN.ret2 rfl rfl rfl ?_
    exact ⟨rfl, hS.fr⟩

set_option maxHeartbeats 1000000 in
set_option maxRecDepth 100000 in
theorem refExpand_c (B : Option Addr) (m2 c2 n : Nat) (key info : List UInt8) (w0 : World) (hkl : key.length = 32) (hi : Rs w0 (.slice B m2 c2) 1 (bs8 info)) (hil : info.length ≤ 5000) (hn : n ≤ 8160) : Calls Try.prog 33 #[.agg (bs8 key).toArray, .slice B m2 c2, .int .i64 (n : Int)] w0 (ExpPost key info n w0) := by
  refine calls_of_WC (args := [.agg (bs8 key).toArray, .slice B m2 c2, .int .i64 (n : Int)]) Try.func33 rfl Try.ntmps33 rfl ?_
  show WC _ _ _ _ [(0, .agg (bs8 key).toArray), (1, .slice B m2 c2), (2, .int .i64 (n : Int))] _
  have hS := ST.start w0 No
  refine WC.seq ?_
  refine WC.region ?_
  refine WL.box (vs := bs8 key) hS rfl rfl rfl ?_
  intro b3 w hb3 hS
  refine WL.pv (pv_assign rfl) rfl ?_
  refine WL.pv (pv_assign rfl) rfl ?_
  refine WL.nil ?_
  refine QN.thenW ?_
  refine WC.seq ?_
  refine WC.seq ?_
  refine WC.region ?_
  refine WL.pv (pv_move rfl) rfl ?_
  refine WL.pv (pv_lss rfl rfl) rfl ?_
  refine WL.pv (pv_move rfl) rfl ?_
  refine WL.guardT rfl rfl rfl (lkF rfl (by omega)) ?_
  refine WL.pv (pv_move rfl) rfl ?_
  refine WL.guardT rfl rfl rfl (lkF rfl (by omega)) ?_
  refine WL.pv (pv_gtr rfl rfl) rfl ?_
  refine WL.pv (pv_pick0 (lkF rfl (by omega)) rfl) rfl ?_
  refine WL.nil ?_
  refine QN.thenW ?_
  refine WC.condDF rfl (by omega) ?_
  refine WC.skip ?_
  refine QN.thenW ?_
  refine WC.seq ?_
  refine WC.region ?_
  refine WL.pv (pv_assign rfl) rfl ?_
  refine WL.nil ?_
  refine QN.thenW ?_
  refine WC.seq ?_
  refine WC.region ?_
  refine WL.pv (pv_assign rfl) rfl ?_
  refine WL.nil ?_
  refine QN.thenW ?_
  refine WC.seq ?_
  refine WC.seq ?_
  refine WC.region ?_
  refine WL.pv (pv_assign rfl) rfl ?_
  refine WL.nil ?_
  refine QN.thenW ?_
  refine WC.block ?_
  replace hS := (hS.addNil 5 1).addNil 5 1
  refine WC.loop (α := Nat × Value × Value) (fun s => [(1, .slice B m2 c2), (2, .int .i64 (n : Int)), (3, .pointer (some ⟨b3, 0, none⟩)), (8, s.2.1), (9, s.2.2), (10, .int .i64 ((s.1 + 1 : Nat) : Int))]) (fun s w => 32 * s.1 < n + 32 ∧ ST w0 No w [.row s.2.2 5 1 (bs8 (expL key info s.1)), .row s.2.1 5 1 (bs8 (expO key info s.1)), .blk b3 25 (bs8 key)]) (fun s => n + 32 - 32 * s.1) ((0, .slice none 0 0, .slice none 0 0)) (Sub.cons rfl (Sub.cons rfl (Sub.cons rfl (Sub.cons rfl (Sub.cons rfl (Sub.cons rfl Sub.nil)))))) ⟨by show 32 * 0 < n + 32; omega, hS⟩ ?_
  rintro ⟨k, v8, v9⟩ w N hN hR
  change N = n + 32 - 32 * k at hN
  change 32 * k < n + 32 ∧ ST w0 No w [.row v9 5 1 (bs8 (expL key info k)), .row v8 5 1 (bs8 (expO key info k)), .blk b3 25 (bs8 key)] at hR
  show WC _ _ _ _ [(1, .slice B m2 c2), (2, .int .i64 (n : Int)), (3, .pointer (some ⟨b3, 0, none⟩)), (8, v8), (9, v9), (10, .int .i64 ((k + 1 : Nat) : Int))] _
  obtain ⟨hk0, hS⟩ := hR
  obtain ⟨A8, m8, c8, rfl, hm8, hc8, hmx8⟩ := (hS.rw_ (k := 1) rfl).anyForm
  rw [bs8_len, expO_len, Nat.mul_one] at hm8
  obtain ⟨A9, m9, c9, rfl, hm9, hc9, hmx9⟩ := (hS.rw_ (k := 0) rfl).anyForm
  have hle := expL_le key info k
  refine WC.seq ?_
  refine WC.seq ?_
  refine WC.region ?_
  refine WL.pv (pv_move rfl) rfl ?_
  refine WL.pv (pv_len slS_22 rfl) rfl ?_
  refine WL.pv (pv_move rfl) rfl ?_
  refine WL.pv (pv_lss rfl rfl) rfl ?_
  refine WL.nil ?_
  refine QN.thenW ?_
  refine WC.condD rfl (fun hc21 => ?_) (fun hc21 => ?_)
  · skip
    refine WC.skip ?_
    refine QN.thenW ?_
    refine WC.seq ?_
    refine WC.block ?_
    refine WC.seq ?_
    refine WC.region ?_
    refine WL.pv (pv_move rfl) rfl ?_
    refine WL.pv (pv_move rfl) rfl ?_
    refine WL.call (args := [.tmp 24, .tmp 25]) cf_64 rfl rfl (join_c _ _ _ _ _ _ _ info _ (hS.rw_ (k := 0) rfl).rs (hi.no hS.fr) (by omega)) ?_
    rintro _ w ⟨vj, rfl, hF, hRj, hfj⟩
    refine ⟨_, rfl, ?_⟩
    replace hS := hS.add (e := .row vj 5 1 _) hF hRj hfj
    refine WL.pv (pv_assign rfl) rfl ?_
    refine WL.nil ?_
    refine QN.thenW ?_
    refine WC.seq ?_
    refine WC.region ?_
    refine WL.pv (pv_move rfl) rfl ?_
    refine WL.pv (pv_move rfl) rfl ?_
    refine WL.pv (pv_conv someT_3 Try.underlying5 rfl (cv_i_8 _)) rfl ?_
    refine WL.build1 hS slT_22 zeroT_5 rfl rfl rfl rfl ?_
    intro b30 w hb30 hS
    refine WL.append (k := 1) (N := 65536) hS slT_22 zlenT_5 (by decide) rfl rfl rfl ((hS.bk (k := 0) rfl).rs 0 1 1 1 (by omega) (by simp [maxLen]) (by simp)) (by simp [Value.oneCell']) (by simp [bs8_len]; omega) (by omega) (by simp [maxLen]) rfl ?_
    intro v31 w hFr31 hS
    try simp only [List.set] at hS
    rw [show List.take (1 * 1) (List.drop 0 [b8 (UInt8.ofNat (k + 1))]) = bs8 [UInt8.ofNat (k + 1)] from rfl, ← bs8_app] at hS
    obtain ⟨A3, m3, c3, rfl, _, _, _⟩ := (hS.rw_ (k := 1) rfl).anyForm
    refine WL.pv (pv_assign rfl) rfl ?_
    refine WL.nil ?_
    refine QN.thenW ?_
    refine WC.seq ?_
    refine WC.region ?_
    refine WL.rv (rv_load_all (k := 4) hS rfl rfl (by rw [aggT_25, bs8_len, hkl])) rfl ?_
    refine WL.call (args := [.tmp 32]) cf_63 rfl rfl (refBytes_c key hkl _) ?_
    rintro _ w ⟨vk, rfl, hF, hRk, hfk⟩
    refine ⟨_, rfl, ?_⟩
    replace hS := hS.add (e := .row vk 5 1 _) hF hRk hfk
    obtain ⟨A4, m4, c4, rfl, _, _, _⟩ := hRk.anyForm
    refine WL.pv (pv_move rfl) rfl ?_
    refine WL.call (args := [.tmp 33, .tmp 34]) cf_27 rfl rfl (refTag_c _ _ _ _ _ _ key _ _ (hS.rw_ (k := 0) rfl).rs (hS.rw_ (k := 2) rfl).rs (by omega) (by rw [List.length_append, List.length_append]; simp; omega)) ?_
    rintro _ w ⟨rfl, hF⟩
    refine ⟨_, rfl, ?_⟩
    replace hS := hS.no hF
    change WL _ _ _ _ _ ((35, .agg (bs8 (expL key info (k + 1))).toArray) :: _) _
    refine WL.call (args := [.tmp 35]) cf_63 rfl rfl (refBytes_c (expL key info (k + 1)) (expL_len _ _ _) _) ?_
    rintro _ w ⟨vt, rfl, hF, hRt, hft⟩
    refine ⟨_, rfl, ?_⟩
    replace hS := hS.add (e := .row vt 5 1 _) hF hRt hft
    obtain ⟨A6, m6, c6, rfl, _, _, _⟩ := hRt.anyForm
    refine WL.pv (pv_assign rfl) rfl ?_
    refine WL.nil ?_
    refine QN.thenW ?_
    refine WC.region ?_
    refine WL.pv (pv_move rfl) rfl ?_
    refine WL.pv (pv_move rfl) rfl ?_
    refine WL.append (k := 5) (N := 65536) hS slT_22 zlenT_5 (by decide) rfl rfl rfl (hS.rw_ (k := 0) rfl).rs bs8_one (by simp [bs8_len, expL_len, expO_len]; omega) (by omega) (by simp [maxLen]) rfl ?_
    intro v39 w hFr39 hS
    try simp only [List.set] at hS
    rw [← bs8_app] at hS
    have hSe := (((hS.erase 1).erase 1).erase 1).erase 1
    simp only [List.eraseIdx_zero, List.eraseIdx_cons_succ, List.tail_cons] at hSe
    refine WL.pv (pv_assign rfl) rfl ?_
    refine WL.nil ?_
    refine QN.blockN ?_
    refine QN.thenW ?_
    refine WC.region ?_
    refine WL.pv (pv_move rfl) rfl ?_
    refine WL.pv (pv_add rfl rfl (by omega)) rfl ?_
    refine WL.pv (pv_assign rfl) rfl ?_
    refine WL.nil ?_
    refine QN.roundE ?_
    refine ⟨((k + 1, v39, _)), (Sub.cons rfl (Sub.cons rfl (Sub.cons rfl (Sub.cons rfl (Sub.cons rfl (Sub.cons rfl Sub.nil)))))), ⟨by show 32 * (k + 1) < n + 32; omega, hSe⟩, ?_⟩
    first | omega | (dsimp only; omega)
  · skip
    refine WC.exit ?_
    refine QN.thenX ?_
    refine QN.thenX ?_
    refine QN.blockX ?_
    refine QN.thenW ?_
    refine WC.seq ?_
    refine WC.region ?_
    refine WL.pv (pv_move rfl) rfl ?_
    refine WL.pv (pv_move rfl) rfl ?_
    refine WL.pv (pv_sliceH (b := n) slT_22 rfl rfl rfl (by omega)) rfl ?_
    refine WL.pv (pv_assign rfl) rfl ?_
    refine WL.pv (pv_assign rfl) rfl ?_
    refine WL.nil ?_
    refine QN.thenW ?_
    refine WC.ret ?_
    refine QN.ret2 rfl rfl rfl ?_
    refine ⟨_, rfl, hS.fr, ?_⟩
    rw [← expand_stop key info k n (by omega) hk0]
    exact (hS.rw_ (k := 1) rfl).rs.cutH8 (b := n) (by omega)

end Go.Proofs.Ytjcebkhhgdgohaa
namespace Go.Proofs.Ytjcebkhhgdgohaa
open Go Go.RowKit Go.Eng
theorem cf_33 : callable Try.prog 33 = true := by kernel_rfl

theorem rs_nil {w : World} : Rs w (.slice none 0 0) 1 (bs8 []) := ⟨none, 0, 0, rfl, Nat.le_refl _, by simp [maxLen], by simp [bs8], .inl rfl⟩
theorem expO_pre (key info : List UInt8) (b a : Nat) (h : b ≤ a) : ∃ r, expO key info a = expO key info b ++ r := by
  induction a with
  | zero => exact ⟨[], by rw [show b = 0 from by omega, List.append_nil]⟩
  | succ a ih =>
    by_cases hb : b = a + 1
    · exact ⟨[], by rw [hb, List.append_nil]⟩
    · obtain ⟨r, hr⟩ := ih (by omega)
      exact ⟨r ++ expL key info (a + 1), by rw [expO, hr, List.append_assoc]⟩
theorem expandV_len (key info : List UInt8) (n : Nat) : (expandV key info n).length = n := by rw [expandV, List.length_take, expO_len]; omega
theorem expandV_pre (key info : List UInt8) (n m : Nat) (h : m ≤ n) : (expandV key info n).take m = expandV key info m := by
  obtain ⟨r, hr⟩ := expO_pre key info ((m + 31) / 32) ((n + 31) / 32) (by omega)
  rw [expandV, expandV, hr, List.take_take, Nat.min_eq_left h, List.take_append_of_le_length (by rw [expO_len]; omega)]

theorem pv_subN {P : Program} {l : Env} {d : Nat} {ty : TypeId} {pos : String} {af : Array Edge} {T U : TypeId} {x y : Operand} {a b : Nat} (hx : ev l x = some (.int .i64 (a : Int))) (hy : ev l y = some (.int .i64 (b : Int))) (h : b ≤ a) (ha : a ≤ 9223372036854775807) : PV P l ⟨some d, .binOp .sub T x y U, ty, pos, af, none⟩ (.int .i64 ((a - b : Nat) : Int)) := by
  rw [show ((a - b : Nat) : Int) = (a : Int) - (b : Int) from by omega]; exact pv_sub hx hy (by omega)

set_option maxRecDepth 100000 in
theorem hkdfExpand_c (A : Option Addr) (m c : Nat) (n : Int) (key info : List UInt8) (w0 : World) (hkl : key.length = 32) (hi : Rs w0 (.slice A m c) 1 (bs8 info)) (hn : -9223372036854775808 ≤ n ∧ n ≤ 9223372036854775807) : Calls Try.prog 11 #[.agg (bs8 key).toArray, .slice A m c, .int .i64 n] w0 fun e w => e = .returned (.bool true) ∧ Fr No w0 w := by
  have hln := hi.len
  rw [bs8_len] at hln
  have hmx : m ≤ 9223372036854775807 := by have := hln; simp only [maxLen] at this; omega
  refine calls_of_WC (args := [.agg (bs8 key).toArray, .slice A m c, .int .i64 n]) Try.func11 rfl Try.ntmps11 rfl ?_
  show WC _ _ _ _ [(0, .agg (bs8 key).toArray), (1, .slice A m c), (2, .int .i64 n)] _
  have hS := ST.start w0 No
  refine WC.seq ?_
  refine WC.region ?_
  refine WL.box (vs := bs8 key) hS rfl rfl rfl ?_
  intro b3 w hb3 hS
  refine WL.pv (pv_assign rfl) rfl ?_
  refine WL.nil ?_
  refine QN.thenW ?_
  refine WC.seq ?_
  refine WC.seq ?_
  refine WC.region ?_
  refine WL.call (args := []) cf_29 rfl rfl (wakesK_c _) ?_
  rintro _ w ⟨rfl, hF⟩
  refine ⟨_, rfl, ?_⟩
  replace hS := hS.no hF
  refine WL.pv (pv_not rfl) rfl ?_
  refine WL.nil ?_
  refine QN.thenW ?_
  refine WC.condF rfl rfl ?_
  refine WC.skip ?_
  refine QN.thenW ?_
  refine WC.seq ?_
  refine WC.seq ?_
  by_cases h300 : m ≤ 300
  · skip
    by_cases hneg : n < 0
    · skip
      refine WC.region ?_
      refine WL.pv (pv_move rfl) rfl ?_
      refine WL.pv (pv_len slS_22 rfl) rfl ?_
      refine WL.pv (pv_gtr rfl rfl) rfl ?_
      refine WL.pv (pv_move rfl) rfl ?_
      refine WL.guardT rfl rfl rfl (lkF rfl (by omega)) ?_
      refine WL.pv (pv_move rfl) rfl ?_
      refine WL.guardT rfl rfl rfl (lkF rfl (by omega)) ?_
      refine WL.pv (pv_gtr rfl rfl) rfl ?_
      refine WL.guardT rfl rfl rfl (lkF rfl (by omega)) ?_
      refine WL.pv (pv_move rfl) rfl ?_
      refine WL.guardF rfl rfl rfl (lkF rfl (by omega)) rfl rfl ?_
      refine WL.guardF rfl rfl rfl (lkF rfl (by omega)) rfl rfl ?_
      refine WL.guardT rfl rfl rfl (lkF rfl (by omega)) ?_
      refine WL.pv (pv_pick0 (lkF rfl (by omega)) rfl) rfl ?_
      refine WL.pv (pv_pick0 (lkF rfl (by omega)) rfl) rfl ?_
      refine WL.nil ?_
      refine QN.thenW ?_
      refine WC.condF rfl rfl ?_
      refine WC.skip ?_
      refine QN.thenW ?_
      refine WC.seq ?_
      refine WC.draw (S := fun w => Bk w b3 25 (bs8 key)) (fuel := 11) (listed := #[false, false, false, false, false, false, false, false, false, false, false]) mixedO rfl rfl ?_
      have hS := hS.no (Fr.drew _)
      refine WH.take (listed' := #[true, false, false, false, false, false, false, false, false, false, false]) 0 rfl (by kernel_rfl) (by kernel_rfl) (by kernel_rfl) (fun _ _ _ h => h) rfl (fun w hS => rv_loadA (by rw [aggT_25, bs8_len, hkl]) rfl (fun j u hu => by rw [Nat.zero_add, Bk.cell hS]; exact hu)) (hS.bk (k := 0) rfl) rfl ?_
      refine WH.take (listed' := #[true, false, true, false, false, false, false, false, false, false, false]) 2 rfl (by kernel_rfl) (by kernel_rfl) (by kernel_rfl) (fun _ _ _ h => h) rfl (fun w _ => PV.rv (pv_move rfl) w) (hS.bk (k := 0) rfl) rfl ?_
      refine WH.take (listed' := #[true, false, true, false, true, false, false, false, false, false, false]) 4 rfl (by kernel_rfl) (by kernel_rfl) (by kernel_rfl) (fun _ _ _ h => h) rfl (fun w _ => PV.rv (pv_move rfl) w) (hS.bk (k := 0) rfl) rfl ?_
      refine WH.one (listed' := #[true, true, true, false, true, false, false, false, false, false, false]) 1 rfl (by kernel_rfl) rfl ?_
      refine WL.build0 hS slT_22 rfl ?_
      intro r28 w hr28 hS
      refine WL.nil ?_
      refine QN.held (hS.bk (k := 1) rfl) ?_
      refine WH.one (listed' := #[true, true, true, true, true, false, false, false, false, false, false]) 3 rfl (by kernel_rfl) rfl ?_
      refine WL.append (k := 0) (N := 65536) hS slT_22 zlenT_5 (by decide) rfl rfl rfl (hi.no hS.fr) bs8_one (by simp [bs8_len]; omega) (by omega) (by simp [maxLen]) rfl ?_
      intro v30 w hFr30 hS
      try simp only [List.set] at hS
      rw [List.nil_append] at hS
      obtain ⟨A3, m3, c3, rfl, _, _, _⟩ := (hS.rw_ (k := 0) rfl).anyForm
      refine WL.nil ?_
      refine QN.held (hS.bk (k := 1) rfl) ?_
      refine WH.one (listed' := #[true, true, true, true, true, true, false, false, false, false, false]) 5 rfl (by kernel_rfl) rfl ?_
      refine WL.call (args := [.tmp 27, .tmp 30, .tmp 31]) cf_32 rfl rfl (expandNo_c _ _ _ n key _ (by omega)) ?_
      rintro _ w ⟨rfl, hF⟩
      refine ⟨_, rfl, ?_⟩
      replace hS := hS.no hF
      refine WL.nil ?_
      refine QN.held (hS.bk (k := 1) rfl) ?_
      refine WH.take (listed' := #[true, true, true, true, true, true, true, false, false, false, false]) 6 rfl (by kernel_rfl) (by kernel_rfl) (by kernel_rfl) (fun _ _ _ h => h) rfl (fun w _ => PV.rv (pv_move rfl) w) (hS.bk (k := 1) rfl) rfl ?_
      refine WH.take (listed' := #[true, true, true, true, true, true, true, true, false, false, false]) 7 rfl (by kernel_rfl) (by kernel_rfl) (by kernel_rfl) (fun _ _ _ h => h) rfl (fun w _ => PV.rv (pv_extL rfl rfl) w) (hS.bk (k := 1) rfl) rfl ?_
      refine WH.take (listed' := #[true, true, true, true, true, true, true, true, true, false, false]) 8 rfl (by kernel_rfl) (by kernel_rfl) (by kernel_rfl) (fun _ _ _ h => h) rfl (fun w _ => PV.rv (pv_extL rfl rfl) w) (hS.bk (k := 1) rfl) rfl ?_
      refine WH.take (listed' := #[true, true, true, true, true, true, true, true, true, true, false]) 9 rfl (by kernel_rfl) (by kernel_rfl) (by kernel_rfl) (fun _ _ _ h => h) rfl (fun w _ => PV.rv (pv_assign rfl) w) (hS.bk (k := 1) rfl) rfl ?_
      refine WH.take (listed' := #[true, true, true, true, true, true, true, true, true, true, true]) 10 rfl (by kernel_rfl) (by kernel_rfl) (by kernel_rfl) (fun _ _ _ h => h) rfl (fun w _ => PV.rv (pv_assign rfl) w) (hS.bk (k := 1) rfl) rfl ?_
      refine WH.done (by kernel_rfl) ?_
      refine QN.thenW ?_
      refine WC.seq ?_
      refine WC.region ?_
      refine WL.rv (rv_load_all (k := 1) hS rfl rfl (by rw [aggT_25, bs8_len, hkl])) rfl ?_
      refine WL.pv (pv_move rfl) rfl ?_
      refine WL.pv (pv_move rfl) rfl ?_
      refine WL.call (args := [.tmp 36, .tmp 37, .tmp 38]) cf_33 rfl rfl (refExpandNo_c _ _ _ n key _ (by omega)) ?_
      rintro _ w ⟨rfl, hF⟩
      refine ⟨_, rfl, ?_⟩
      replace hS := hS.no hF
      refine WL.pv (pv_move rfl) rfl ?_
      refine WL.pv (pv_extL rfl rfl) rfl ?_
      refine WL.pv (pv_extL rfl rfl) rfl ?_
      refine WL.pv (pv_assign rfl) rfl ?_
      refine WL.pv (pv_assign rfl) rfl ?_
      refine WL.nil ?_
      refine QN.thenW ?_
      refine WC.seq ?_
      refine WC.seq ?_
      refine WC.region ?_
      refine WL.pv (pv_move rfl) rfl ?_
      refine WL.pv (pv_move rfl) rfl ?_
      refine WL.call (args := [.tmp 42, .tmp 43]) cf_22 rfl rfl (same_c _ _ _ _ _ _ [] [] _ rs_nil rs_nil) ?_
      rintro _ w ⟨rfl, hF⟩
      refine ⟨_, rfl, ?_⟩
      replace hS := hS.no hF
      refine WL.pv (pv_not rfl) rfl ?_
      refine WL.pv (pv_move rfl) rfl ?_
      refine WL.guardT rfl rfl rfl (lkB rfl (by simp)) ?_
      refine WL.pv (pv_move rfl) rfl ?_
      refine WL.guardT rfl rfl rfl (lkB rfl (by simp)) ?_
      refine WL.pv (pv_move rfl) rfl ?_
      refine WL.guardT rfl rfl rfl (lkB rfl (by simp)) ?_
      refine WL.pv (pv_neq rfl rfl) rfl ?_
      refine WL.pv (pv_pick0 (lkB rfl (by simp)) rfl) rfl ?_
      refine WL.nil ?_
      refine QN.thenW ?_
      refine WC.condDF rfl (by omega) ?_
      refine WC.skip ?_
      refine QN.thenW ?_
      refine WC.seq ?_
      refine WC.seq ?_
      refine WC.region ?_
      refine WL.pv (pv_move rfl) rfl ?_
      refine WL.pv (pv_neq rfl rfl) rfl ?_
      refine WL.pv (pv_move rfl) rfl ?_
      refine WL.guardF rfl rfl rfl (lkT rfl (by decide)) rfl rfl ?_
      refine WL.guardF rfl rfl rfl (lkT rfl (by decide)) rfl rfl ?_
      refine WL.pv (pv_pick1 (lkT rfl (by decide)) rfl) rfl ?_
      refine WL.nil ?_
      refine QN.thenW ?_
      refine WC.condT rfl rfl ?_
      refine WC.seq ?_
      refine WC.region ?_
      refine WL.pv (pv_assign rfl) rfl ?_
      refine WL.nil ?_
      refine QN.thenW ?_
      refine WC.ret ?_
      refine QN.thenR ?_
      refine QN.ret1 rfl rfl ?_
      exact ⟨by simp, hS.fr⟩
    · skip
      by_cases hbig : 8160 < n
      · skip
        refine WC.region ?_
        refine WL.pv (pv_move rfl) rfl ?_
        refine WL.pv (pv_len slS_22 rfl) rfl ?_
        refine WL.pv (pv_gtr rfl rfl) rfl ?_
        refine WL.pv (pv_move rfl) rfl ?_
        refine WL.guardT rfl rfl rfl (lkF rfl (by omega)) ?_
        refine WL.pv (pv_move rfl) rfl ?_
        refine WL.guardT rfl rfl rfl (lkF rfl (by omega)) ?_
        refine WL.pv (pv_gtr rfl rfl) rfl ?_
        refine WL.guardT rfl rfl rfl (lkF rfl (by omega)) ?_
        refine WL.pv (pv_move rfl) rfl ?_
        refine WL.guardT rfl rfl rfl (lkT rfl (by omega)) ?_
        refine WL.pv (pv_move rfl) rfl ?_
        refine WL.guardT rfl rfl rfl (lkT rfl (by omega)) ?_
        refine WL.pv (pv_leq rfl rfl) rfl ?_
        refine WL.guardT rfl rfl rfl (lkF rfl (by omega)) ?_
        refine WL.pv (pv_pick1 (lkT rfl (by omega)) rfl) rfl ?_
        refine WL.pv (pv_pick0 (lkF rfl (by omega)) rfl) rfl ?_
        refine WL.nil ?_
        refine QN.thenW ?_
        refine WC.condDF rfl (by omega) ?_
        refine WC.skip ?_
        refine QN.thenW ?_
        refine WC.seq ?_
        refine WC.draw (S := fun w => Bk w b3 25 (bs8 key)) (fuel := 11) (listed := #[false, false, false, false, false, false, false, false, false, false, false]) mixedO rfl rfl ?_
        have hS := hS.no (Fr.drew _)
        refine WH.take (listed' := #[true, false, false, false, false, false, false, false, false, false, false]) 0 rfl (by kernel_rfl) (by kernel_rfl) (by kernel_rfl) (fun _ _ _ h => h) rfl (fun w hS => rv_loadA (by rw [aggT_25, bs8_len, hkl]) rfl (fun j u hu => by rw [Nat.zero_add, Bk.cell hS]; exact hu)) (hS.bk (k := 0) rfl) rfl ?_
        refine WH.take (listed' := #[true, false, true, false, false, false, false, false, false, false, false]) 2 rfl (by kernel_rfl) (by kernel_rfl) (by kernel_rfl) (fun _ _ _ h => h) rfl (fun w _ => PV.rv (pv_move rfl) w) (hS.bk (k := 0) rfl) rfl ?_
        refine WH.take (listed' := #[true, false, true, false, true, false, false, false, false, false, false]) 4 rfl (by kernel_rfl) (by kernel_rfl) (by kernel_rfl) (fun _ _ _ h => h) rfl (fun w _ => PV.rv (pv_move rfl) w) (hS.bk (k := 0) rfl) rfl ?_
        refine WH.one (listed' := #[true, true, true, false, true, false, false, false, false, false, false]) 1 rfl (by kernel_rfl) rfl ?_
        refine WL.build0 hS slT_22 rfl ?_
        intro r28 w hr28 hS
        refine WL.nil ?_
        refine QN.held (hS.bk (k := 1) rfl) ?_
        refine WH.one (listed' := #[true, true, true, true, true, false, false, false, false, false, false]) 3 rfl (by kernel_rfl) rfl ?_
        refine WL.append (k := 0) (N := 65536) hS slT_22 zlenT_5 (by decide) rfl rfl rfl (hi.no hS.fr) bs8_one (by simp [bs8_len]; omega) (by omega) (by simp [maxLen]) rfl ?_
        intro v30 w hFr30 hS
        try simp only [List.set] at hS
        rw [List.nil_append] at hS
        obtain ⟨A3, m3, c3, rfl, _, _, _⟩ := (hS.rw_ (k := 0) rfl).anyForm
        refine WL.nil ?_
        refine QN.held (hS.bk (k := 1) rfl) ?_
        refine WH.one (listed' := #[true, true, true, true, true, true, false, false, false, false, false]) 5 rfl (by kernel_rfl) rfl ?_
        refine WL.call (args := [.tmp 27, .tmp 30, .tmp 31]) cf_32 rfl rfl (expandNo_c _ _ _ n key _ (by omega)) ?_
        rintro _ w ⟨rfl, hF⟩
        refine ⟨_, rfl, ?_⟩
        replace hS := hS.no hF
        refine WL.nil ?_
        refine QN.held (hS.bk (k := 1) rfl) ?_
        refine WH.take (listed' := #[true, true, true, true, true, true, true, false, false, false, false]) 6 rfl (by kernel_rfl) (by kernel_rfl) (by kernel_rfl) (fun _ _ _ h => h) rfl (fun w _ => PV.rv (pv_move rfl) w) (hS.bk (k := 1) rfl) rfl ?_
        refine WH.take (listed' := #[true, true, true, true, true, true, true, true, false, false, false]) 7 rfl (by kernel_rfl) (by kernel_rfl) (by kernel_rfl) (fun _ _ _ h => h) rfl (fun w _ => PV.rv (pv_extL rfl rfl) w) (hS.bk (k := 1) rfl) rfl ?_
        refine WH.take (listed' := #[true, true, true, true, true, true, true, true, true, false, false]) 8 rfl (by kernel_rfl) (by kernel_rfl) (by kernel_rfl) (fun _ _ _ h => h) rfl (fun w _ => PV.rv (pv_extL rfl rfl) w) (hS.bk (k := 1) rfl) rfl ?_
        refine WH.take (listed' := #[true, true, true, true, true, true, true, true, true, true, false]) 9 rfl (by kernel_rfl) (by kernel_rfl) (by kernel_rfl) (fun _ _ _ h => h) rfl (fun w _ => PV.rv (pv_assign rfl) w) (hS.bk (k := 1) rfl) rfl ?_
        refine WH.take (listed' := #[true, true, true, true, true, true, true, true, true, true, true]) 10 rfl (by kernel_rfl) (by kernel_rfl) (by kernel_rfl) (fun _ _ _ h => h) rfl (fun w _ => PV.rv (pv_assign rfl) w) (hS.bk (k := 1) rfl) rfl ?_
        refine WH.done (by kernel_rfl) ?_
        refine QN.thenW ?_
        refine WC.seq ?_
        refine WC.region ?_
        refine WL.rv (rv_load_all (k := 1) hS rfl rfl (by rw [aggT_25, bs8_len, hkl])) rfl ?_
        refine WL.pv (pv_move rfl) rfl ?_
        refine WL.pv (pv_move rfl) rfl ?_
        refine WL.call (args := [.tmp 36, .tmp 37, .tmp 38]) cf_33 rfl rfl (refExpandNo_c _ _ _ n key _ (by omega)) ?_
        rintro _ w ⟨rfl, hF⟩
        refine ⟨_, rfl, ?_⟩
        replace hS := hS.no hF
        refine WL.pv (pv_move rfl) rfl ?_
        refine WL.pv (pv_extL rfl rfl) rfl ?_
        refine WL.pv (pv_extL rfl rfl) rfl ?_
        refine WL.pv (pv_assign rfl) rfl ?_
        refine WL.pv (pv_assign rfl) rfl ?_
        refine WL.nil ?_
        refine QN.thenW ?_
        refine WC.seq ?_
        refine WC.seq ?_
        refine WC.region ?_
        refine WL.pv (pv_move rfl) rfl ?_
        refine WL.pv (pv_move rfl) rfl ?_
        refine WL.call (args := [.tmp 42, .tmp 43]) cf_22 rfl rfl (same_c _ _ _ _ _ _ [] [] _ rs_nil rs_nil) ?_
        rintro _ w ⟨rfl, hF⟩
        refine ⟨_, rfl, ?_⟩
        replace hS := hS.no hF
        refine WL.pv (pv_not rfl) rfl ?_
        refine WL.pv (pv_move rfl) rfl ?_
        refine WL.guardT rfl rfl rfl (lkB rfl (by simp)) ?_
        refine WL.pv (pv_move rfl) rfl ?_
        refine WL.guardT rfl rfl rfl (lkB rfl (by simp)) ?_
        refine WL.pv (pv_move rfl) rfl ?_
        refine WL.guardT rfl rfl rfl (lkB rfl (by simp)) ?_
        refine WL.pv (pv_neq rfl rfl) rfl ?_
        refine WL.pv (pv_pick0 (lkB rfl (by simp)) rfl) rfl ?_
        refine WL.nil ?_
        refine QN.thenW ?_
        refine WC.condDF rfl (by omega) ?_
        refine WC.skip ?_
        refine QN.thenW ?_
        refine WC.seq ?_
        refine WC.seq ?_
        refine WC.region ?_
        refine WL.pv (pv_move rfl) rfl ?_
        refine WL.pv (pv_neq rfl rfl) rfl ?_
        refine WL.pv (pv_move rfl) rfl ?_
        refine WL.guardF rfl rfl rfl (lkT rfl (by decide)) rfl rfl ?_
        refine WL.guardF rfl rfl rfl (lkT rfl (by decide)) rfl rfl ?_
        refine WL.pv (pv_pick1 (lkT rfl (by decide)) rfl) rfl ?_
        refine WL.nil ?_
        refine QN.thenW ?_
        refine WC.condT rfl rfl ?_
        refine WC.seq ?_
        refine WC.region ?_
        refine WL.pv (pv_assign rfl) rfl ?_
        refine WL.nil ?_
        refine QN.thenW ?_
        refine WC.ret ?_
        refine QN.thenR ?_
        refine QN.ret1 rfl rfl ?_
        exact ⟨by simp, hS.fr⟩
      · skip
        by_cases hmid : 600 < n
        · skip
          refine WC.region ?_
          refine WL.pv (pv_move rfl) rfl ?_
          refine WL.pv (pv_len slS_22 rfl) rfl ?_
          refine WL.pv (pv_gtr rfl rfl) rfl ?_
          refine WL.pv (pv_move rfl) rfl ?_
          refine WL.guardT rfl rfl rfl (lkF rfl (by omega)) ?_
          refine WL.pv (pv_move rfl) rfl ?_
          refine WL.guardT rfl rfl rfl (lkF rfl (by omega)) ?_
          refine WL.pv (pv_gtr rfl rfl) rfl ?_
          refine WL.guardT rfl rfl rfl (lkF rfl (by omega)) ?_
          refine WL.pv (pv_move rfl) rfl ?_
          refine WL.guardT rfl rfl rfl (lkT rfl (by omega)) ?_
          refine WL.pv (pv_move rfl) rfl ?_
          refine WL.guardT rfl rfl rfl (lkT rfl (by omega)) ?_
          refine WL.pv (pv_leq rfl rfl) rfl ?_
          refine WL.guardT rfl rfl rfl (lkF rfl (by omega)) ?_
          refine WL.pv (pv_pick1 (lkT rfl (by omega)) rfl) rfl ?_
          refine WL.pv (pv_pick0 (lkF rfl (by omega)) rfl) rfl ?_
          refine WL.nil ?_
          refine QN.thenW ?_
          refine WC.condDT rfl (by omega) ?_
          refine WC.seq ?_
          refine WC.region ?_
          refine WL.pv (pv_assign rfl) rfl ?_
          refine WL.nil ?_
          refine QN.thenW ?_
          refine WC.ret ?_
          refine QN.thenR ?_
          refine QN.ret1 rfl rfl ?_
          exact ⟨by simp, hS.fr⟩
        · skip
          refine WC.region ?_
          refine WL.pv (pv_move rfl) rfl ?_
          refine WL.pv (pv_len slS_22 rfl) rfl ?_
          refine WL.pv (pv_gtr rfl rfl) rfl ?_
          refine WL.pv (pv_move rfl) rfl ?_
          refine WL.guardT rfl rfl rfl (lkF rfl (by omega)) ?_
          refine WL.pv (pv_move rfl) rfl ?_
          refine WL.guardT rfl rfl rfl (lkF rfl (by omega)) ?_
          refine WL.pv (pv_gtr rfl rfl) rfl ?_
          refine WL.guardT rfl rfl rfl (lkF rfl (by omega)) ?_
          refine WL.pv (pv_move rfl) rfl ?_
          refine WL.guardF rfl rfl rfl (lkF rfl (by omega)) rfl rfl ?_
          refine WL.guardF rfl rfl rfl (lkF rfl (by omega)) rfl rfl ?_
          refine WL.guardT rfl rfl rfl (lkF rfl (by omega)) ?_
          refine WL.pv (pv_pick0 (lkF rfl (by omega)) rfl) rfl ?_
          refine WL.pv (pv_pick0 (lkF rfl (by omega)) rfl) rfl ?_
          refine WL.nil ?_
          refine QN.thenW ?_
          refine WC.condF rfl rfl ?_
          refine WC.skip ?_
          refine QN.thenW ?_
          refine WC.seq ?_
          obtain ⟨k, rfl⟩ : ∃ k : Nat, n = (k : Int) := ⟨n.toNat, by omega⟩
          refine WC.draw (S := fun w => Bk w b3 25 (bs8 key)) (fuel := 11) (listed := #[false, false, false, false, false, false, false, false, false, false, false]) mixedO rfl rfl ?_
          have hS := hS.no (Fr.drew _)
          refine WH.take (listed' := #[true, false, false, false, false, false, false, false, false, false, false]) 0 rfl (by kernel_rfl) (by kernel_rfl) (by kernel_rfl) (fun _ _ _ h => h) rfl (fun w hS => rv_loadA (by rw [aggT_25, bs8_len, hkl]) rfl (fun j u hu => by rw [Nat.zero_add, Bk.cell hS]; exact hu)) (hS.bk (k := 0) rfl) rfl ?_
          refine WH.take (listed' := #[true, false, true, false, false, false, false, false, false, false, false]) 2 rfl (by kernel_rfl) (by kernel_rfl) (by kernel_rfl) (fun _ _ _ h => h) rfl (fun w _ => PV.rv (pv_move rfl) w) (hS.bk (k := 0) rfl) rfl ?_
          refine WH.take (listed' := #[true, false, true, false, true, false, false, false, false, false, false]) 4 rfl (by kernel_rfl) (by kernel_rfl) (by kernel_rfl) (fun _ _ _ h => h) rfl (fun w _ => PV.rv (pv_move rfl) w) (hS.bk (k := 0) rfl) rfl ?_
          refine WH.one (listed' := #[true, true, true, false, true, false, false, false, false, false, false]) 1 rfl (by kernel_rfl) rfl ?_
          refine WL.build0 hS slT_22 rfl ?_
          intro r28 w hr28 hS
          refine WL.nil ?_
          refine QN.held (hS.bk (k := 1) rfl) ?_
          refine WH.one (listed' := #[true, true, true, true, true, false, false, false, false, false, false]) 3 rfl (by kernel_rfl) rfl ?_
          refine WL.append (k := 0) (N := 65536) hS slT_22 zlenT_5 (by decide) rfl rfl rfl (hi.no hS.fr) bs8_one (by simp [bs8_len]; omega) (by omega) (by simp [maxLen]) rfl ?_
          intro v30 w hFr30 hS
          try simp only [List.set] at hS
          rw [List.nil_append] at hS
          obtain ⟨A3, m3, c3, rfl, _, _, _⟩ := (hS.rw_ (k := 0) rfl).anyForm
          refine WL.nil ?_
          refine QN.held (hS.bk (k := 1) rfl) ?_
          refine WH.one (listed' := #[true, true, true, true, true, true, false, false, false, false, false]) 5 rfl (by kernel_rfl) rfl ?_
          refine WL.call (args := [.tmp 27, .tmp 30, .tmp 31]) cf_32 rfl rfl (expand_c _ _ _ k key info _ hkl (hS.rw_ (k := 0) rfl).rs (by omega) (by omega)) ?_
          rintro _ w ⟨v, rfl, hF, hv⟩
          refine ⟨_, rfl, ?_⟩
          replace hS := hS.no hF
          obtain ⟨Av, mv, cv, rfl, _, _, _, _⟩ := id hv
          have hvl := hv.len
          rw [bs8_len, expandV_len] at hvl
          refine WL.nil ?_
          refine QN.held (hS.bk (k := 1) rfl) ?_
          refine WH.take (listed' := #[true, true, true, true, true, true, true, false, false, false, false]) 6 rfl (by kernel_rfl) (by kernel_rfl) (by kernel_rfl) (fun _ _ _ h => h) rfl (fun w _ => PV.rv (pv_move rfl) w) (hS.bk (k := 1) rfl) rfl ?_
          refine WH.take (listed' := #[true, true, true, true, true, true, true, true, false, false, false]) 7 rfl (by kernel_rfl) (by kernel_rfl) (by kernel_rfl) (fun _ _ _ h => h) rfl (fun w _ => PV.rv (pv_extL rfl rfl) w) (hS.bk (k := 1) rfl) rfl ?_
          refine WH.take (listed' := #[true, true, true, true, true, true, true, true, true, false, false]) 8 rfl (by kernel_rfl) (by kernel_rfl) (by kernel_rfl) (fun _ _ _ h => h) rfl (fun w _ => PV.rv (pv_extL rfl rfl) w) (hS.bk (k := 1) rfl) rfl ?_
          refine WH.take (listed' := #[true, true, true, true, true, true, true, true, true, true, false]) 9 rfl (by kernel_rfl) (by kernel_rfl) (by kernel_rfl) (fun _ _ _ h => h) rfl (fun w _ => PV.rv (pv_assign rfl) w) (hS.bk (k := 1) rfl) rfl ?_
          refine WH.take (listed' := #[true, true, true, true, true, true, true, true, true, true, true]) 10 rfl (by kernel_rfl) (by kernel_rfl) (by kernel_rfl) (fun _ _ _ h => h) rfl (fun w _ => PV.rv (pv_assign rfl) w) (hS.bk (k := 1) rfl) rfl ?_
          refine WH.done (by kernel_rfl) ?_
          refine QN.thenW ?_
          refine WC.seq ?_
          refine WC.region ?_
          refine WL.rv (rv_load_all (k := 1) hS rfl rfl (by rw [aggT_25, bs8_len, hkl])) rfl ?_
          refine WL.pv (pv_move rfl) rfl ?_
          refine WL.pv (pv_move rfl) rfl ?_
          refine WL.call (args := [.tmp 36, .tmp 37, .tmp 38]) cf_33 rfl rfl (refExpand_c _ _ _ k key info _ hkl (hi.no hS.fr) (by omega) (by omega)) ?_
          rintro _ w ⟨v2, rfl, hF, hv2⟩
          refine ⟨_, rfl, ?_⟩
          replace hS := hS.no hF
          replace hv := hv.no hF
          obtain ⟨Au, mu, cu, rfl, _, _, _, _⟩ := id hv2
          refine WL.pv (pv_move rfl) rfl ?_
          refine WL.pv (pv_extL rfl rfl) rfl ?_
          refine WL.pv (pv_extL rfl rfl) rfl ?_
          refine WL.pv (pv_assign rfl) rfl ?_
          refine WL.pv (pv_assign rfl) rfl ?_
          refine WL.nil ?_
          refine QN.thenW ?_
          refine WC.seq ?_
          refine WC.seq ?_
          refine WC.region ?_
          refine WL.pv (pv_move rfl) rfl ?_
          refine WL.pv (pv_move rfl) rfl ?_
          refine WL.call (args := [.tmp 42, .tmp 43]) cf_22 rfl rfl (same_c _ _ _ _ _ _ _ _ _ hv hv2) ?_
          rintro _ w ⟨rfl, hF⟩
          refine ⟨_, rfl, ?_⟩
          replace hS := hS.no hF
          replace hv := hv.no hF
          refine WL.pv (pv_not rfl) rfl ?_
          refine WL.pv (pv_move rfl) rfl ?_
          refine WL.guardT rfl rfl rfl (lkB rfl (by simp)) ?_
          refine WL.pv (pv_move rfl) rfl ?_
          refine WL.guardT rfl rfl rfl (lkB rfl (by simp)) ?_
          refine WL.pv (pv_move rfl) rfl ?_
          refine WL.guardT rfl rfl rfl (lkB rfl (by simp)) ?_
          refine WL.pv (pv_neq rfl rfl) rfl ?_
          refine WL.pv (pv_pick0 (lkB rfl (by simp)) rfl) rfl ?_
          refine WL.nil ?_
          refine QN.thenW ?_
          refine WC.condDF rfl (by omega) ?_
          refine WC.skip ?_
          refine QN.thenW ?_
          refine WC.seq ?_
          refine WC.seq ?_
          refine WC.region ?_
          refine WL.pv (pv_move rfl) rfl ?_
          refine WL.pv (pv_neq rfl rfl) rfl ?_
          refine WL.pv (pv_move rfl) rfl ?_
          refine WL.guardT rfl rfl rfl (lkF rfl (by decide)) ?_
          refine WL.pv (pv_move rfl) rfl ?_
          refine WL.guardT rfl rfl rfl (lkF rfl (by decide)) ?_
          refine WL.pv (pv_eql rfl rfl) rfl ?_
          refine WL.pv (pv_pick0 (lkF rfl (by decide)) rfl) rfl ?_
          refine WL.nil ?_
          refine QN.thenW ?_
          refine WC.condD rfl (fun hc56 => ?_) (fun hc56 => ?_)
          · skip
            refine WC.seq ?_
            refine WC.region ?_
            refine WL.pv (pv_assign rfl) rfl ?_
            refine WL.nil ?_
            refine QN.thenW ?_
            refine WC.ret ?_
            refine QN.thenR ?_
            refine QN.ret1 rfl rfl ?_
            exact ⟨by simp, hS.fr⟩
          · skip
            obtain ⟨q, rfl⟩ : ∃ q : Nat, k = q + 1 := ⟨k - 1, by omega⟩
            refine WC.skip ?_
            refine QN.thenW ?_
            refine WC.seq ?_
            refine WC.region ?_
            refine WL.rv (rv_load_all (k := 1) hS rfl rfl (by rw [aggT_25, bs8_len, hkl])) rfl ?_
            refine WL.pv (pv_move rfl) rfl ?_
            refine WL.pv (pv_move rfl) rfl ?_
            refine WL.pv (pv_subN (a := q + 1) (b := 1) rfl rfl (by omega) (by omega)) rfl ?_
            refine WL.call (args := [.tmp 58, .tmp 59, .tmp 61]) cf_32 rfl rfl (expand_c _ _ _ q key info _ hkl (hi.no hS.fr) (by omega) (by omega)) ?_
            rintro _ w ⟨v3, rfl, hF, hv3⟩
            refine ⟨_, rfl, ?_⟩
            replace hS := hS.no hF
            replace hv := hv.no hF
            obtain ⟨Ac, mc, cc, rfl, _, _, _, _⟩ := id hv3
            refine WL.pv (pv_move rfl) rfl ?_
            refine WL.pv (pv_extL rfl rfl) rfl ?_
            refine WL.pv (pv_extL rfl rfl) rfl ?_
            refine WL.pv (pv_assign rfl) rfl ?_
            refine WL.pv (pv_assign rfl) rfl ?_
            refine WL.nil ?_
            refine QN.thenW ?_
            refine WC.seq ?_
            refine WC.region ?_
            refine WL.pv (pv_move rfl) rfl ?_
            refine WL.pv (pv_eql rfl rfl) rfl ?_
            refine WL.pv (pv_move rfl) rfl ?_
            refine WL.guardT rfl rfl rfl (lkT rfl (by decide)) ?_
            refine WL.pv (pv_move rfl) rfl ?_
            refine WL.guardT rfl rfl rfl (lkT rfl (by decide)) ?_
            refine WL.pv (pv_move rfl) rfl ?_
            refine WL.guardT rfl rfl rfl (lkT rfl (by decide)) ?_
            refine WL.pv (pv_move rfl) rfl ?_
            refine WL.guardT rfl rfl rfl (lkT rfl (by decide)) ?_
            refine WL.pv (pv_subN (a := q + 1) (b := 1) rfl rfl (by omega) (by omega)) rfl ?_
            refine WL.guardT rfl rfl rfl (lkT rfl (by decide)) ?_
            refine WL.pv (pv_sliceH (b := q) slT_22 rfl rfl (by first | rfl | (simp only [bnd]; congr 1; omega)) (by omega)) rfl ?_
            refine WL.guardT rfl rfl rfl (lkT rfl (by decide)) ?_
            refine WL.call (args := [.tmp 68, .tmp 72]) cf_22 rfl rfl (same_c _ _ _ _ _ _ _ _ _ hv3 (hv.cutH8 (b := q) (by omega))) ?_
            rintro _ w ⟨rfl, hF⟩
            refine ⟨_, rfl, ?_⟩
            replace hS := hS.no hF
            rw [expandV_pre _ _ _ _ (by omega)]
            refine WL.pv (pv_pick1 (lkT rfl (by decide)) rfl) rfl ?_
            refine WL.pv (pv_assign rfl) rfl ?_
            refine WL.nil ?_
            refine QN.thenW ?_
            refine WC.ret ?_
            refine QN.ret1 rfl rfl ?_
            exact ⟨by simp, hS.fr⟩
  · skip
    refine WC.region ?_
    refine WL.pv (pv_move rfl) rfl ?_
    refine WL.pv (pv_len slS_22 rfl) rfl ?_
    refine WL.pv (pv_gtr rfl rfl) rfl ?_
    refine WL.pv (pv_move rfl) rfl ?_
    refine WL.guardF rfl rfl rfl (lkT rfl (by omega)) rfl rfl ?_
    refine WL.guardF rfl rfl rfl (lkT rfl (by omega)) rfl rfl ?_
    refine WL.guardF rfl rfl rfl (lkT rfl (by omega)) rfl rfl ?_
    refine WL.guardU rfl rfl rfl rfl rfl rfl ?_
    refine WL.guardU rfl rfl rfl rfl rfl rfl ?_
    refine WL.guardF rfl rfl rfl (lkT rfl (by omega)) rfl rfl ?_
    refine WL.pv (pv_pick1 (lkT rfl (by omega)) rfl) rfl ?_
    refine WL.nil ?_
    refine QN.thenW ?_
    refine WC.condT rfl rfl ?_
    refine WC.seq ?_
    refine WC.region ?_
    refine WL.pv (pv_assign rfl) rfl ?_
    refine WL.nil ?_
    refine QN.thenW ?_
    refine WC.ret ?_
    refine QN.thenR ?_
    refine QN.ret1 rfl rfl ?_
    exact ⟨by simp, hS.fr⟩

end Go.Proofs.Ytjcebkhhgdgohaa
namespace Go.Proofs.Ytjcebkhhgdgohaa
open Go Go.RowKit Go.Eng


/-- A use's name. -/
def NamC (b : UInt8) : Prop := 32 ≤ b.toNat ∧ b.toNat ≤ 126
instance (b : UInt8) : Decidable (NamC b) := by unfold NamC; exact inferInstance
def Nam (s : ByteArray) : Prop := (∀ j (hj : j < s.size), NamC s[j]) ∧ 1 ≤ s.size ∧ s.size ≤ 40
instance (s : ByteArray) : Decidable (Nam s) := by unfold Nam; exact inferInstance
def NamPost (s : ByteArray) (w0 : World) (e : Ending) (w : World) : Prop := ∃ t, e = .returned (.bool t) ∧ (t = true ↔ Nam s) ∧ Fr No w0 w
theorem dec_in {s : ByteArray} {p : Nat} (h : p < s.size) (h2 : (Utf8.decode s p).1 ≤ 126) : Utf8.decode s p = (s[p].toNat, 1) := by
  by_cases ha : s[p].toNat < 128
  · exact decode_ascii s p h ha
  · have := (decode_high s p h (by omega)).1; omega
theorem dec_out {s : ByteArray} {p : Nat} (h : p < s.size) (h2 : (Utf8.decode s p).1 < 32 ∨ 126 < (Utf8.decode s p).1) : ¬ Nam s := by
  intro hN
  have hc := hN.1 p h
  unfold NamC at hc
  rw [decode_ascii s p h (by omega)] at h2
  simp only at h2
  omega

set_option maxRecDepth 100000 in
theorem named_c (s : ByteArray) (w0 : World) (hs : s.size ≤ 1000) : Calls Try.prog 69 #[.string s] w0 (NamPost s w0) := by
  refine calls_of_WC (args := [.string s]) Try.func69 rfl Try.ntmps69 rfl ?_
  show WC _ _ _ _ [(0, .string s)] _
  have hS := ST.start w0 No
  refine WC.seq ?_
  refine WC.region ?_
  refine WL.pv (pv_assign rfl) rfl ?_
  refine WL.nil ?_
  refine QN.thenW ?_
  refine WC.seq ?_
  refine WC.region ?_
  refine WL.pv (pv_assign rfl) rfl ?_
  refine WL.nil ?_
  refine QN.thenW ?_
  refine WC.seq ?_
  refine WC.seq ?_
  refine WC.region ?_
  refine WL.pv (pv_move rfl) rfl ?_
  refine WL.rangeStr hS Try.underlying9 rfl rfl ?_
  intro bi w hbi hS
  refine WL.nil ?_
  refine QN.thenW ?_
  refine WC.block ?_
  refine WC.loop (α := Nat) (fun p => [(0, .string s), (3, .int .i64 (p : Int)), (7, .pointer (some ⟨bi, 0, none⟩))]) (fun p w => p ≤ s.size ∧ (∀ j (hj : j < s.size), j < p → NamC s[j]) ∧ ST w0 No w [.obj bi (.stringIter s p)]) (fun p => s.size - p) (0) (Sub.cons rfl (Sub.cons rfl (Sub.cons rfl Sub.nil))) ⟨by omega, fun j hj h => absurd h (by omega), hS⟩ ?_
  rintro p w N hN hR
  obtain ⟨hp, hN0, hS⟩ := hR
  refine WC.seq ?_
  by_cases hps : p < s.size
  · skip
    refine WC.region ?_
    refine WL.nextStr (k := 0) hS rfl rfl (by omega) rfl ?_
    intro w hS
    try simp only [List.set] at hS
    refine WL.pv (pv_extL rfl rfl) rfl ?_
    refine WL.nil ?_
    refine QN.thenW ?_
    refine WC.seq ?_
    refine WC.condT rfl rfl ?_
    refine WC.skip ?_
    refine QN.thenW ?_
    refine WC.block ?_
    refine WC.seq ?_
    refine WC.region ?_
    refine WL.pv (pv_extL rfl rfl) rfl ?_
    refine WL.pv (pv_assign rfl) rfl ?_
    refine WL.nil ?_
    refine QN.thenW ?_
    refine WC.seq ?_
    refine WC.seq ?_
    by_cases hlo : (Utf8.decode s p).1 < 32
    · skip
      refine WC.region ?_
      refine WL.pv (pv_move rfl) rfl ?_
      refine WL.pv (pv_lss rfl rfl) rfl ?_
      refine WL.pv (pv_move rfl) rfl ?_
      refine WL.guardF rfl rfl rfl (lkT rfl (by omega)) rfl rfl ?_
      refine WL.guardF rfl rfl rfl (lkT rfl (by omega)) rfl rfl ?_
      refine WL.pv (pv_pick1 (lkT rfl (by omega)) rfl) rfl ?_
      refine WL.nil ?_
      refine QN.thenW ?_
      refine WC.condT rfl rfl ?_
      refine WC.seq ?_
      refine WC.region ?_
      refine WL.pv (pv_assign rfl) rfl ?_
      refine WL.nil ?_
      refine QN.thenW ?_
      refine WC.ret ?_
      refine QN.thenR ?_
      refine QN.blockR ?_
      refine QN.thenR ?_
      refine QN.blockR ?_
      refine QN.thenR ?_
      refine QN.ret1 rfl rfl ?_
      exact ⟨false, rfl, ⟨fun h => by simp at h, fun h => absurd h (dec_out hps (.inl hlo))⟩, hS.fr⟩
    · skip
      refine WC.region ?_
      refine WL.pv (pv_move rfl) rfl ?_
      refine WL.pv (pv_lss rfl rfl) rfl ?_
      refine WL.pv (pv_move rfl) rfl ?_
      refine WL.guardT rfl rfl rfl (lkF rfl (by omega)) ?_
      refine WL.pv (pv_move rfl) rfl ?_
      refine WL.guardT rfl rfl rfl (lkF rfl (by omega)) ?_
      refine WL.pv (pv_gtr rfl rfl) rfl ?_
      refine WL.pv (pv_pick0 (lkF rfl (by omega)) rfl) rfl ?_
      refine WL.nil ?_
      refine QN.thenW ?_
      refine WC.condD rfl (fun hc16 => ?_) (fun hc16 => ?_)
      · skip
        have hout : ¬ Nam s := dec_out hps (.inr (by omega))
        refine WC.seq ?_
        refine WC.region ?_
        refine WL.pv (pv_assign rfl) rfl ?_
        refine WL.nil ?_
        refine QN.thenW ?_
        refine WC.ret ?_
        refine QN.thenR ?_
        refine QN.blockR ?_
        refine QN.thenR ?_
        refine QN.blockR ?_
        refine QN.thenR ?_
        refine QN.ret1 rfl rfl ?_
        exact ⟨false, rfl, ⟨fun h => by simp at h, fun h => absurd h hout⟩, hS.fr⟩
      · skip
        have hdec := dec_in hps (by omega)
        have hdc : (Utf8.decode s p).1 = s[p].toNat := by rw [hdec]
        have hN1 : ∀ j (hj : j < s.size), j < p + 1 → NamC s[j] := fun j hj h => by
          by_cases hjp : j = p
          · subst hjp; unfold NamC; omega
          · exact hN0 j hj (by omega)
        refine WC.skip ?_
        refine QN.thenW ?_
        refine WC.region ?_
        refine WL.pv (pv_move rfl) rfl ?_
        refine WL.pv (pv_add rfl rfl (by omega)) rfl ?_
        refine WL.pv (pv_assign rfl) rfl ?_
        refine WL.nil ?_
        refine QN.blockN ?_
        refine QN.roundE ?_
        refine ⟨(p + 1), (Sub.cons rfl (Sub.cons rfl (Sub.cons rfl Sub.nil))), ⟨by omega, hN1, by rw [hdec] at hS; exact hS⟩, ?_⟩
        first | omega | (dsimp only; omega)
  · skip
    refine WC.region ?_
    refine WL.nextEnd (k := 0) hS rfl rfl (by omega) rfl ?_
    refine WL.pv (pv_extL rfl rfl) rfl ?_
    refine WL.nil ?_
    refine QN.thenW ?_
    refine WC.seq ?_
    refine WC.condF rfl rfl ?_
    refine WC.exit ?_
    refine QN.thenX ?_
    refine QN.thenX ?_
    refine QN.blockX ?_
    refine QN.thenW ?_
    refine WC.seq ?_
    by_cases h1 : 1 ≤ p
    · skip
      refine WC.region ?_
      refine WL.pv (pv_move rfl) rfl ?_
      refine WL.pv (pv_geq rfl rfl) rfl ?_
      refine WL.pv (pv_move rfl) rfl ?_
      refine WL.guardT rfl rfl rfl (lkT rfl (by omega)) ?_
      refine WL.pv (pv_move rfl) rfl ?_
      refine WL.guardT rfl rfl rfl (lkT rfl (by omega)) ?_
      refine WL.pv (pv_leq rfl rfl) rfl ?_
      refine WL.pv (pv_pick1 (lkT rfl (by omega)) rfl) rfl ?_
      refine WL.pv (pv_assign rfl) rfl ?_
      refine WL.nil ?_
      refine QN.thenW ?_
      refine WC.ret ?_
      refine QN.ret1 rfl rfl ?_
      refine ⟨_, rfl, ⟨fun h => ⟨fun j hj => hN0 j hj (by omega), by omega, ?_⟩, fun h => ?_⟩, hS.fr⟩
      · have := of_decide_eq_true h; omega
      · have h2 := h.2; exact decide_eq_true (by omega)
    · skip
      refine WC.region ?_
      refine WL.pv (pv_move rfl) rfl ?_
      refine WL.pv (pv_geq rfl rfl) rfl ?_
      refine WL.pv (pv_move rfl) rfl ?_
      refine WL.guardF rfl rfl rfl (lkF rfl (by omega)) rfl rfl ?_
      refine WL.guardF rfl rfl rfl (lkF rfl (by omega)) rfl rfl ?_
      refine WL.pv (pv_pick0 (lkF rfl (by omega)) rfl) rfl ?_
      refine WL.pv (pv_assign rfl) rfl ?_
      refine WL.nil ?_
      refine QN.thenW ?_
      refine WC.ret ?_
      refine QN.ret1 rfl rfl ?_
      exact ⟨false, rfl, ⟨fun h => by simp at h, fun h => absurd h.2.1 (by omega)⟩, hS.fr⟩

set_option maxRecDepth 100000 in
theorem refNamed_c (s : ByteArray) (w0 : World) (hs : s.size ≤ 1000) : Calls Try.prog 70 #[.string s] w0 (NamPost s w0) := by
  refine calls_of_WC (args := [.string s]) Try.func70 rfl Try.ntmps70 rfl ?_
  show WC _ _ _ _ [(0, .string s)] _
  have hS := ST.start w0 No
  refine WC.seq ?_
  refine WC.region ?_
  refine WL.pv (pv_assign rfl) rfl ?_
  refine WL.nil ?_
  refine QN.thenW ?_
  refine WC.seq ?_
  refine WC.seq ?_
  refine WC.region ?_
  refine WL.pv (pv_assign rfl) rfl ?_
  refine WL.nil ?_
  refine QN.thenW ?_
  refine WC.block ?_
  refine WC.loop (α := Nat) (fun p => [(0, .string s), (3, .int .i64 (p : Int))]) (fun p w => p ≤ s.size ∧ (∀ j (hj : j < s.size), j < p → NamC s[j]) ∧ ST w0 No w []) (fun p => s.size - p) (0) (Sub.cons rfl (Sub.cons rfl Sub.nil)) ⟨by omega, fun j hj h => absurd h (by omega), hS⟩ ?_
  rintro p w N hN hR
  obtain ⟨hp, hN0, hS⟩ := hR
  refine WC.seq ?_
  refine WC.seq ?_
  refine WC.region ?_
  refine WL.pv (pv_move rfl) rfl ?_
  refine WL.pv (pv_move rfl) rfl ?_
  refine WL.pv (pv_lenStr Try.underlying9 rfl) rfl ?_
  refine WL.pv (pv_lss rfl rfl) rfl ?_
  refine WL.nil ?_
  refine QN.thenW ?_
  refine WC.condD rfl (fun hc7 => ?_) (fun hc7 => ?_)
  · skip
    have hps : p < s.size := by omega
    refine WC.skip ?_
    refine QN.thenW ?_
    refine WC.seq ?_
    refine WC.block ?_
    refine WC.seq ?_
    by_cases hlo : s[p].toNat < 32
    · skip
      refine WC.region ?_
      refine WL.pv (pv_move rfl) rfl ?_
      refine WL.pv (pv_move rfl) rfl ?_
      refine WL.pv (pv_indexStr (j := p) Try.underlying9 rfl rfl (by omega) (by omega)) rfl ?_
      refine WL.pv (pv_lss rfl rfl) rfl ?_
      refine WL.pv (pv_move rfl) rfl ?_
      refine WL.guardF rfl rfl rfl (lkT rfl (by omega)) rfl rfl ?_
      refine WL.guardF rfl rfl rfl (lkT rfl (by omega)) rfl rfl ?_
      refine WL.guardF rfl rfl rfl (lkT rfl (by omega)) rfl rfl ?_
      refine WL.guardF rfl rfl rfl (lkT rfl (by omega)) rfl rfl ?_
      refine WL.pv (pv_pick1 (lkT rfl (by omega)) rfl) rfl ?_
      refine WL.nil ?_
      refine QN.thenW ?_
      refine WC.condT rfl rfl ?_
      refine WC.seq ?_
      refine WC.region ?_
      refine WL.pv (pv_assign rfl) rfl ?_
      refine WL.nil ?_
      refine QN.thenW ?_
      refine WC.ret ?_
      refine QN.blockR ?_
      refine QN.thenR ?_
      refine QN.thenR ?_
      refine QN.blockR ?_
      refine QN.thenR ?_
      refine QN.ret1 rfl rfl ?_
      exact ⟨false, rfl, ⟨fun h => by simp at h, fun h => by have := h.1 p hps; unfold NamC at this; omega⟩, hS.fr⟩
    · skip
      refine WC.region ?_
      refine WL.pv (pv_move rfl) rfl ?_
      refine WL.pv (pv_move rfl) rfl ?_
      refine WL.pv (pv_indexStr (j := p) Try.underlying9 rfl rfl (by omega) (by omega)) rfl ?_
      refine WL.pv (pv_lss rfl rfl) rfl ?_
      refine WL.pv (pv_move rfl) rfl ?_
      refine WL.guardT rfl rfl rfl (lkF rfl (by omega)) ?_
      refine WL.pv (pv_move rfl) rfl ?_
      refine WL.guardT rfl rfl rfl (lkF rfl (by omega)) ?_
      refine WL.pv (pv_move rfl) rfl ?_
      refine WL.guardT rfl rfl rfl (lkF rfl (by omega)) ?_
      refine WL.pv (pv_indexStr (j := p) Try.underlying9 rfl rfl (by omega) (by omega)) rfl ?_
      refine WL.guardT rfl rfl rfl (lkF rfl (by omega)) ?_
      refine WL.pv (pv_gtr rfl rfl) rfl ?_
      refine WL.pv (pv_pick0 (lkF rfl (by omega)) rfl) rfl ?_
      refine WL.nil ?_
      refine QN.thenW ?_
      refine WC.condD rfl (fun hc19 => ?_) (fun hc19 => ?_)
      · skip
        have hout : ¬ Nam s := fun h => by have := h.1 p hps; unfold NamC at this; omega
        refine WC.seq ?_
        refine WC.region ?_
        refine WL.pv (pv_assign rfl) rfl ?_
        refine WL.nil ?_
        refine QN.thenW ?_
        refine WC.ret ?_
        refine QN.blockR ?_
        refine QN.thenR ?_
        refine QN.thenR ?_
        refine QN.blockR ?_
        refine QN.thenR ?_
        refine QN.ret1 rfl rfl ?_
        exact ⟨false, rfl, ⟨fun h => by simp at h, fun h => absurd h hout⟩, hS.fr⟩
      · skip
        have hN1 : ∀ j (hj : j < s.size), j < p + 1 → NamC s[j] := fun j hj h => by
          by_cases hjp : j = p
          · subst hjp; unfold NamC; omega
          · exact hN0 j hj (by omega)
        refine WC.skip ?_
        refine QN.blockN ?_
        refine QN.thenW ?_
        refine WC.region ?_
        refine WL.pv (pv_move rfl) rfl ?_
        refine WL.pv (pv_add rfl rfl (by omega)) rfl ?_
        refine WL.pv (pv_assign rfl) rfl ?_
        refine WL.nil ?_
        refine QN.roundE ?_
        refine ⟨(p + 1), (Sub.cons rfl (Sub.cons rfl Sub.nil)), ⟨by omega, hN1, hS⟩, ?_⟩
        first | omega | (dsimp only; omega)
  · skip
    refine WC.exit ?_
    refine QN.thenX ?_
    refine QN.thenX ?_
    refine QN.blockX ?_
    refine QN.thenW ?_
    refine WC.seq ?_
    by_cases h1 : 1 ≤ s.size
    · skip
      refine WC.region ?_
      refine WL.pv (pv_move rfl) rfl ?_
      refine WL.pv (pv_lenStr Try.underlying9 rfl) rfl ?_
      refine WL.pv (pv_geq rfl rfl) rfl ?_
      refine WL.pv (pv_move rfl) rfl ?_
      refine WL.guardT rfl rfl rfl (lkT rfl (by omega)) ?_
      refine WL.pv (pv_move rfl) rfl ?_
      refine WL.guardT rfl rfl rfl (lkT rfl (by omega)) ?_
      refine WL.pv (pv_lenStr Try.underlying9 rfl) rfl ?_
      refine WL.guardT rfl rfl rfl (lkT rfl (by omega)) ?_
      refine WL.pv (pv_leq rfl rfl) rfl ?_
      refine WL.pv (pv_pick1 (lkT rfl (by omega)) rfl) rfl ?_
      refine WL.pv (pv_assign rfl) rfl ?_
      refine WL.nil ?_
      refine QN.thenW ?_
      refine WC.ret ?_
      refine QN.ret1 rfl rfl ?_
      refine ⟨_, rfl, ⟨fun h => ⟨fun j hj => hN0 j hj (by omega), by omega, ?_⟩, fun h => ?_⟩, hS.fr⟩
      · have := of_decide_eq_true h; omega
      · have h2 := h.2; exact decide_eq_true (by omega)
    · skip
      refine WC.region ?_
      refine WL.pv (pv_move rfl) rfl ?_
      refine WL.pv (pv_lenStr Try.underlying9 rfl) rfl ?_
      refine WL.pv (pv_geq rfl rfl) rfl ?_
      refine WL.pv (pv_move rfl) rfl ?_
      refine WL.guardF rfl rfl rfl (lkF rfl (by omega)) rfl rfl ?_
      refine WL.guardF rfl rfl rfl (lkF rfl (by omega)) rfl rfl ?_
      refine WL.guardF rfl rfl rfl (lkF rfl (by omega)) rfl rfl ?_
      refine WL.pv (pv_pick0 (lkF rfl (by omega)) rfl) rfl ?_
      refine WL.pv (pv_assign rfl) rfl ?_
      refine WL.nil ?_
      refine QN.thenW ?_
      refine WC.ret ?_
      refine QN.ret1 rfl rfl ?_
      exact ⟨false, rfl, ⟨fun h => by simp at h, fun h => absurd h.2.1 (by omega)⟩, hS.fr⟩

end Go.Proofs.Ytjcebkhhgdgohaa
namespace Go.Proofs.Ytjcebkhhgdgohaa
open Go Go.RowKit Go.Eng
theorem cf_69 : callable Try.prog 69 = true := by kernel_rfl

def scrL : List UInt8 := [115, 99, 114, 105, 110, 105, 117, 109]
/-- The key of a use, and the error. -/
def useInfo (s : ByteArray) (g : Int) : List UInt8 := s.data.toList ++ [0] ++ beB (UInt64.ofNat g.toNat) 4
def useV (master : List UInt8) (s : ByteArray) (g : Int) : List UInt8 × Int :=
  if Nam s then if 0 ≤ g ∧ g ≤ 4294967295 then (expandV (extractV scrL master) (useInfo s g) 32, 0) else (List.replicate 32 0, 14) else (List.replicate 32 0, 5)
theorem useV_no {master : List UInt8} {s : ByteArray} {g : Int} (h : ¬ Nam s) : useV master s g = (List.replicate 32 0, 5) := by rw [useV, if_neg h]
theorem useV_arg {master : List UInt8} {s : ByteArray} {g : Int} (h : Nam s) (hg : ¬ (0 ≤ g ∧ g ≤ 4294967295)) : useV master s g = (List.replicate 32 0, 14) := by rw [useV, if_pos h, if_neg hg]
theorem useV_yes {master : List UInt8} {s : ByteArray} {g : Int} (h : Nam s) (hg : 0 ≤ g ∧ g ≤ 4294967295) : useV master s g = (expandV (extractV scrL master) (useInfo s g) 32, 0) := by rw [useV, if_pos h, if_pos hg]
theorem useV_len (master : List UInt8) (s : ByteArray) (g : Int) : (useV master s g).1.length = 32 := by
  unfold useV
  split
  · split
    · exact expandV_len _ _ _
    · simp
  · simp
def UsePost (master : List UInt8) (s : ByteArray) (g : Int) (w0 : World) (e : Ending) (w : World) : Prop := e = .returned (.tuple #[.agg (bs8 (useV master s g).1).toArray, .int .i64 (useV master s g).2]) ∧ Fr No w0 w
theorem bs8_zero (n : Nat) : List.replicate n (b8 0) = bs8 (List.replicate n 0) := by simp [bs8]
theorem str_len (s : ByteArray) : s.data.toList.length = s.size := rfl
theorem wid32 (q : Nat) (h : q ≤ 4294967295) : widN (UInt64.ofNat q).toNat ≤ 4 := widN_le (by omega) (by rw [UInt64.toNat_ofNat']; simp; omega)

set_option maxHeartbeats 1000000 in
set_option maxRecDepth 100000 in
theorem use_c (master : List UInt8) (s : ByteArray) (g : Int) (w0 : World) (hml : master.length = 32) (hs : s.size ≤ 1000) (hg : -9223372036854775808 ≤ g ∧ g ≤ 9223372036854775807) : Calls Try.prog 46 #[.agg (bs8 master).toArray, .string s, .int .i64 g] w0 (UsePost master s g w0) := by
  refine calls_of_WC (args := [.agg (bs8 master).toArray, .string s, .int .i64 g]) Try.func46 rfl Try.ntmps46 rfl ?_
  show WC _ _ _ _ [(0, .agg (bs8 master).toArray), (1, .string s), (2, .int .i64 g)] _
  have hS := ST.start w0 No
  refine WC.seq ?_
  refine WC.region ?_
  refine WL.box (vs := bs8 master) hS rfl rfl rfl ?_
  intro b3 w hb3 hS
  refine WL.alloc hS zeroT_25 rfl ?_
  intro b6 w hb6 hS
  refine WL.pv (pv_assign rfl) rfl ?_
  refine WL.nil ?_
  refine QN.thenW ?_
  refine WC.seq ?_
  refine WC.block ?_
  refine WC.seq ?_
  refine WC.region ?_
  refine WL.pv (pv_move rfl) rfl ?_
  refine WL.call (args := [.tmp 13]) cf_69 rfl rfl (named_c s _ hs) ?_
  rintro _ w ⟨t, rfl, ht, hF⟩
  refine ⟨_, rfl, ?_⟩
  replace hS := hS.no hF
  refine WL.pv (pv_not rfl) rfl ?_
  refine WL.pv (pv_assign rfl) rfl ?_
  refine WL.nil ?_
  refine QN.thenW ?_
  refine WC.cond rfl (fun hc12 => ?_) (fun hc12 => ?_)
  · skip
    have hNm : ¬ Nam s := fun h => by have := ht.2 h; subst this; simp at hc12
    refine WC.seq ?_
    refine WC.region ?_
    refine WL.pv (pv_buildA (parts := []) arrT_25 zeroT_25 rfl rfl) rfl ?_
    refine WL.storeAll (k := 0) (vs := _) hS (by first | rw [sizeT_25, bs8_len, expandV_len] | (rw [sizeT_25]; simp)) rfl rfl rfl (by first | exact bs8_one | simp [Value.oneCell']) (by first | rw [bs8_len, expandV_len, List.length_replicate] | simp) ?_
    intro w hS
    try simp only [List.set] at hS
    refine WL.pv (pv_assign rfl) rfl ?_
    refine WL.nil ?_
    refine QN.thenW ?_
    refine WC.ret ?_
    refine QN.blockR ?_
    refine QN.thenR ?_
    refine QN.retKT (k := 0) rfl rfl hS rfl (by first | rw [aggT_25, bs8_len, expandV_len] | (rw [aggT_25]; simp)) rfl ?_
    refine ⟨?_, hS.fr⟩
    rw [useV_no hNm, ← bs8_zero]
  · skip
    have hNm : Nam s := ht.1 (by simpa using hc12)
    refine WC.seq ?_
    by_cases hneg : g < 0
    · skip
      refine WC.region ?_
      refine WL.pv (pv_move rfl) rfl ?_
      refine WL.pv (pv_lss rfl rfl) rfl ?_
      refine WL.pv (pv_move rfl) rfl ?_
      refine WL.guardF rfl rfl rfl (lkT rfl (by omega)) rfl rfl ?_
      refine WL.guardF rfl rfl rfl (lkT rfl (by omega)) rfl rfl ?_
      refine WL.pv (pv_pick1 (lkT rfl (by omega)) rfl) rfl ?_
      refine WL.pv (pv_assign rfl) rfl ?_
      refine WL.nil ?_
      refine QN.thenW ?_
      refine WC.condT rfl rfl ?_
      refine WC.seq ?_
      refine WC.region ?_
      refine WL.pv (pv_buildA (parts := []) arrT_25 zeroT_25 rfl rfl) rfl ?_
      refine WL.storeAll (k := 0) (vs := _) hS (by first | rw [sizeT_25, bs8_len, expandV_len] | (rw [sizeT_25]; simp)) rfl rfl rfl (by first | exact bs8_one | simp [Value.oneCell']) (by first | rw [bs8_len, expandV_len, List.length_replicate] | simp) ?_
      intro w hS
      try simp only [List.set] at hS
      refine WL.pv (pv_assign rfl) rfl ?_
      refine WL.nil ?_
      refine QN.thenW ?_
      refine WC.ret ?_
      refine QN.blockR ?_
      refine QN.thenR ?_
      refine QN.retKT (k := 0) rfl rfl hS rfl (by first | rw [aggT_25, bs8_len, expandV_len] | (rw [aggT_25]; simp)) rfl ?_
      refine ⟨?_, hS.fr⟩
      rw [useV_arg hNm (by omega), ← bs8_zero]
    · skip
      refine WC.region ?_
      refine WL.pv (pv_move rfl) rfl ?_
      refine WL.pv (pv_lss rfl rfl) rfl ?_
      refine WL.pv (pv_move rfl) rfl ?_
      refine WL.guardT rfl rfl rfl (lkF rfl (by omega)) ?_
      refine WL.pv (pv_move rfl) rfl ?_
      refine WL.guardT rfl rfl rfl (lkF rfl (by omega)) ?_
      refine WL.pv (pv_gtr rfl rfl) rfl ?_
      refine WL.pv (pv_pick0 (lkF rfl (by omega)) rfl) rfl ?_
      refine WL.pv (pv_assign rfl) rfl ?_
      refine WL.nil ?_
      refine QN.thenW ?_
      refine WC.condD rfl (fun hc17 => ?_) (fun hc17 => ?_)
      · skip
        refine WC.seq ?_
        refine WC.region ?_
        refine WL.pv (pv_buildA (parts := []) arrT_25 zeroT_25 rfl rfl) rfl ?_
        refine WL.storeAll (k := 0) (vs := _) hS (by first | rw [sizeT_25, bs8_len, expandV_len] | (rw [sizeT_25]; simp)) rfl rfl rfl (by first | exact bs8_one | simp [Value.oneCell']) (by first | rw [bs8_len, expandV_len, List.length_replicate] | simp) ?_
        intro w hS
        try simp only [List.set] at hS
        refine WL.pv (pv_assign rfl) rfl ?_
        refine WL.nil ?_
        refine QN.thenW ?_
        refine WC.ret ?_
        refine QN.blockR ?_
        refine QN.thenR ?_
        refine QN.retKT (k := 0) rfl rfl hS rfl (by first | rw [aggT_25, bs8_len, expandV_len] | (rw [aggT_25]; simp)) rfl ?_
        refine ⟨?_, hS.fr⟩
        rw [useV_arg hNm (by omega), ← bs8_zero]
      · skip
        obtain ⟨q, rfl⟩ : ∃ q : Nat, g = (q : Int) := ⟨g.toNat, by omega⟩
        refine WC.skip ?_
        refine QN.blockN ?_
        refine QN.thenW ?_
        refine WC.seq ?_
        refine WC.region ?_
        refine WL.alloc hS zeroT_103 rfl ?_
        intro bw w hbw hS
        replace hS := hS.addNil 5 1
        refine WL.nil ?_
        refine QN.thenW ?_
        refine WC.seq ?_
        refine WC.region ?_
        refine WL.pv (pv_move rfl) rfl ?_
        refine WL.pv (pv_conv someT_3 Try.underlying86 rfl (cv_i_64 _)) rfl ?_
        refine WL.call (args := [.tmp 8, .tmp 26, .const (.int .i64 4)]) cf_65 rfl rfl (num_c bw (.slice none 0 0) [] (UInt64.ofNat q) 4 _ (hS.bk (k := 1) rfl) (hS.rw_ (k := 0) rfl) (by omega) (by omega) (wid32 q (by omega)) (by simp)) ?_
        rintro _ w ⟨rfl, hF, v1, hB, hR1, ho⟩
        refine ⟨_, rfl, ?_⟩
        replace hS := hS.upd2 (i := 1) (j := 0) rfl rfl hF hB hR1 ho
        simp only [List.set] at hS
        rw [List.nil_append] at hS
        refine WL.nil ?_
        refine QN.thenW ?_
        refine WC.seq ?_
        refine WC.region ?_
        refine WL.pv (pv_move rfl) rfl ?_
        refine WL.convStr hS Try.underlying9 Try.underlying22 Try.underlying5 rfl (by simp only [maxLen]; omega) rfl ?_
        intro r29 w hr29 hS
        refine WL.build1 (v := b8 0) hS slT_22 zeroT_5 rfl rfl rfl rfl ?_
        intro b30 w hb30 hS
        refine WL.append (k := 1) (N := 65536) hS slT_22 zlenT_5 (by decide) rfl rfl rfl ((hS.bk (k := 0) rfl).rs 0 1 1 1 (by omega) (by simp [maxLen]) (by simp)) (by simp [Value.oneCell']) (by simp [bs8_len]; omega) (by omega) (by simp [maxLen]) rfl ?_
        intro v31 w hFr31 hS
        try simp only [List.set] at hS
        rw [show List.take (1 * 1) (List.drop 0 [b8 0]) = bs8 [0] from rfl, ← bs8_app] at hS
        refine WL.call (args := [.tmp 8]) cf_66 rfl rfl (out_c bw v1 _ _ (hS.bk (k := 3) rfl) (hS.rw_ (k := 2) rfl) (by simp [beB_len])) ?_
        rintro _ w ⟨vb, rfl, hF, hRb, hfb⟩
        refine ⟨_, rfl, ?_⟩
        replace hS := hS.add (e := .row vb 5 1 _) hF hRb hfb
        obtain ⟨gb, mb, cb, rfl, _, _, _⟩ := hRb.form8 (by rw [beB_len]; omega)
        refine WL.append (k := 2) (N := 65536) hS slT_22 zlenT_5 (by decide) rfl rfl rfl (hS.rw_ (k := 0) rfl).rs bs8_one (by rw [bs8_len, bs8_len, beB_len]; simp; omega) (by omega) (by simp [maxLen]) rfl ?_
        intro v33 w hFr33 hS
        try simp only [List.set] at hS
        rw [← bs8_app, show s.data.toList ++ [0] ++ beB (UInt64.ofNat q) 4 = useInfo s (q : Int) from by rw [useInfo, Int.toNat_natCast]] at hS
        obtain ⟨A3, m3, c3, rfl, hm3, _, _⟩ := (hS.rw_ (k := 2) rfl).anyForm
        refine WL.pv (pv_assign rfl) rfl ?_
        refine WL.nil ?_
        refine QN.thenW ?_
        refine WC.seq ?_
        refine WC.region ?_
        refine WL.buildV (parts := [(0, .const (.int .u8 115)), (1, .const (.int .u8 99)), (2, .const (.int .u8 114)), (3, .const (.int .u8 105)), (4, .const (.int .u8 110)), (5, .const (.int .u8 105)), (6, .const (.int .u8 117)), (7, .const (.int .u8 109))]) (vs := [b8 115, b8 99, b8 114, b8 105, b8 110, b8 105, b8 117, b8 109]) hS slT_22 zeroT_5 (by simp) rfl rfl rfl (by simp [Value.cells]) rfl rfl ?_
        intro b35 w hb35 hS
        refine WL.convS (k := 0) hS Try.underlying22 Try.underlying5 rfl rfl rfl ?_
        intro w hS
        refine WL.pv (pv_sliceW arrT_25 rfl) rfl ?_
        refine WL.call (args := [.tmp 36, .tmp 37]) cf_30 rfl rfl (extract_c _ _ 8 8 32 32 scrL master _ (Bk.rsAll (hS.bk (k := 0) rfl) rfl (by simp [maxLen])) (Bk.rsAll (hS.bk (k := 7) rfl) hml (by simp [maxLen]))) ?_
        rintro _ w ⟨rfl, hF⟩
        refine ⟨_, rfl, ?_⟩
        replace hS := hS.no hF
        refine WL.pv (pv_move rfl) rfl ?_
        refine WL.call (args := [.tmp 38, .tmp 39, .const (.int .i64 32)]) cf_32 rfl rfl (expand_c _ _ _ 32 (extractV scrL master) (useInfo s (q : Int)) _ (extractV_len _ _) (hS.rw_ (k := 3) rfl).rs (by rw [useInfo]; simp [beB_len]; omega) (by omega)) ?_
        rintro _ w ⟨v, rfl, hF, hv⟩
        refine ⟨_, rfl, ?_⟩
        replace hS := hS.no hF
        obtain ⟨Av, mv, cv, rfl, _, _, _, _⟩ := id hv
        have hmv := hv.len
        rw [bs8_len, expandV_len] at hmv
        obtain ⟨bv, ov, rfl, _, _, _, hcv⟩ := hv.at_ (by rw [bs8_len, expandV_len]; omega)
        refine WL.pv (pv_move rfl) rfl ?_
        refine WL.pv (pv_extL rfl rfl) rfl ?_
        refine WL.pv (pv_extL rfl rfl) rfl ?_
        refine WL.pv (pv_assign rfl) rfl ?_
        refine WL.pv (pv_assign rfl) rfl ?_
        refine WL.nil ?_
        refine QN.thenW ?_
        refine WC.seq ?_
        refine WC.region ?_
        refine WL.pv (pv_move rfl) rfl ?_
        refine WL.pv (pv_s2ap arrT_25 rfl (by omega)) rfl ?_
        refine WL.rv (rv_loadA (by rw [aggT_25, bs8_len, expandV_len]) rfl hcv) rfl ?_
        refine WL.storeAll (k := 6) (vs := _) hS (by first | rw [sizeT_25, bs8_len, expandV_len] | (rw [sizeT_25]; simp)) rfl rfl rfl (by first | exact bs8_one | simp [Value.oneCell']) (by first | rw [bs8_len, expandV_len, List.length_replicate] | simp) ?_
        intro w hS
        try simp only [List.set] at hS
        refine WL.pv (pv_assign rfl) rfl ?_
        refine WL.nil ?_
        refine QN.thenW ?_
        refine WC.ret ?_
        refine QN.retKT (k := 6) rfl rfl hS rfl (by first | rw [aggT_25, bs8_len, expandV_len] | (rw [aggT_25]; simp)) rfl ?_
        refine ⟨?_, hS.fr⟩
        rw [useV_yes hNm (by omega)]

end Go.Proofs.Ytjcebkhhgdgohaa
namespace Go.Proofs.Ytjcebkhhgdgohaa
open Go Go.RowKit Go.Eng
theorem cf_70 : callable Try.prog 70 = true := by kernel_rfl

theorem fillB_of (l : List UInt8) {n : Nat} (h : l.length = n) : fillB (fun j => l.getD j 0) n n = l := by
  rw [fillB_all]
  apply List.ext_getElem (by simp [h])
  intro i h1 h2
  simp [h2]

set_option maxHeartbeats 1000000 in
set_option maxRecDepth 100000 in
theorem refUse_c (master : List UInt8) (s : ByteArray) (g : Int) (w0 : World) (hml : master.length = 32) (hs : s.size ≤ 1000) (hg : -9223372036854775808 ≤ g ∧ g ≤ 9223372036854775807) : Calls Try.prog 47 #[.agg (bs8 master).toArray, .string s, .int .i64 g] w0 (UsePost master s g w0) := by
  refine calls_of_WC (args := [.agg (bs8 master).toArray, .string s, .int .i64 g]) Try.func47 rfl Try.ntmps47 rfl ?_
  show WC _ _ _ _ [(0, .agg (bs8 master).toArray), (1, .string s), (2, .int .i64 g)] _
  have hS := ST.start w0 No
  refine WC.seq ?_
  refine WC.region ?_
  refine WL.box (vs := bs8 master) hS rfl rfl rfl ?_
  intro b3 w hb3 hS
  refine WL.alloc hS zeroT_25 rfl ?_
  intro b6 w hb6 hS
  refine WL.pv (pv_assign rfl) rfl ?_
  refine WL.nil ?_
  refine QN.thenW ?_
  refine WC.seq ?_
  refine WC.seq ?_
  refine WC.region ?_
  refine WL.pv (pv_move rfl) rfl ?_
  refine WL.call (args := [.tmp 13]) cf_70 rfl rfl (refNamed_c s _ hs) ?_
  rintro _ w ⟨t, rfl, ht, hF⟩
  refine ⟨_, rfl, ?_⟩
  replace hS := hS.no hF
  refine WL.pv (pv_not rfl) rfl ?_
  refine WL.nil ?_
  refine QN.thenW ?_
  refine WC.cond rfl (fun hc15 => ?_) (fun hc15 => ?_)
  · skip
    have hNm : ¬ Nam s := fun h => by have := ht.2 h; subst this; simp at hc15
    refine WC.seq ?_
    refine WC.region ?_
    refine WL.pv (pv_buildA (parts := []) arrT_25 zeroT_25 rfl rfl) rfl ?_
    refine WL.storeAll (k := 0) (vs := _) hS (by first | rw [sizeT_25, bs8_len, expandV_len] | (rw [sizeT_25]; simp)) rfl rfl rfl (by first | exact bs8_one | simp [Value.oneCell']) (by first | rw [bs8_len, expandV_len, List.length_replicate] | simp) ?_
    intro w hS
    try simp only [List.set] at hS
    refine WL.pv (pv_assign rfl) rfl ?_
    refine WL.nil ?_
    refine QN.thenW ?_
    refine WC.ret ?_
    refine QN.thenR ?_
    refine QN.retKT (k := 0) rfl rfl hS rfl (by first | rw [aggT_25, bs8_len, expandV_len] | (rw [aggT_25]; simp)) rfl ?_
    refine ⟨?_, hS.fr⟩
    rw [useV_no hNm, ← bs8_zero]
  · skip
    have hNm : Nam s := ht.1 (by simpa using hc15)
    refine WC.skip ?_
    refine QN.thenW ?_
    refine WC.seq ?_
    refine WC.seq ?_
    by_cases hneg : g < 0
    · skip
      refine WC.region ?_
      refine WL.pv (pv_move rfl) rfl ?_
      refine WL.pv (pv_lss rfl rfl) rfl ?_
      refine WL.pv (pv_move rfl) rfl ?_
      refine WL.guardF rfl rfl rfl (lkT rfl (by omega)) rfl rfl ?_
      refine WL.guardF rfl rfl rfl (lkT rfl (by omega)) rfl rfl ?_
      refine WL.pv (pv_pick1 (lkT rfl (by omega)) rfl) rfl ?_
      refine WL.nil ?_
      refine QN.thenW ?_
      refine WC.condT rfl rfl ?_
      refine WC.seq ?_
      refine WC.region ?_
      refine WL.pv (pv_buildA (parts := []) arrT_25 zeroT_25 rfl rfl) rfl ?_
      refine WL.storeAll (k := 0) (vs := _) hS (by first | rw [sizeT_25, bs8_len, expandV_len] | (rw [sizeT_25]; simp)) rfl rfl rfl (by first | exact bs8_one | simp [Value.oneCell']) (by first | rw [bs8_len, expandV_len, List.length_replicate] | simp) ?_
      intro w hS
      try simp only [List.set] at hS
      refine WL.pv (pv_assign rfl) rfl ?_
      refine WL.nil ?_
      refine QN.thenW ?_
      refine WC.ret ?_
      refine QN.thenR ?_
      refine QN.retKT (k := 0) rfl rfl hS rfl (by first | rw [aggT_25, bs8_len, expandV_len] | (rw [aggT_25]; simp)) rfl ?_
      refine ⟨?_, hS.fr⟩
      rw [useV_arg hNm (by omega), ← bs8_zero]
    · skip
      refine WC.region ?_
      refine WL.pv (pv_move rfl) rfl ?_
      refine WL.pv (pv_lss rfl rfl) rfl ?_
      refine WL.pv (pv_move rfl) rfl ?_
      refine WL.guardT rfl rfl rfl (lkF rfl (by omega)) ?_
      refine WL.pv (pv_move rfl) rfl ?_
      refine WL.guardT rfl rfl rfl (lkF rfl (by omega)) ?_
      refine WL.pv (pv_gtr rfl rfl) rfl ?_
      refine WL.pv (pv_pick0 (lkF rfl (by omega)) rfl) rfl ?_
      refine WL.nil ?_
      refine QN.thenW ?_
      refine WC.condD rfl (fun hc22 => ?_) (fun hc22 => ?_)
      · skip
        refine WC.seq ?_
        refine WC.region ?_
        refine WL.pv (pv_buildA (parts := []) arrT_25 zeroT_25 rfl rfl) rfl ?_
        refine WL.storeAll (k := 0) (vs := _) hS (by first | rw [sizeT_25, bs8_len, expandV_len] | (rw [sizeT_25]; simp)) rfl rfl rfl (by first | exact bs8_one | simp [Value.oneCell']) (by first | rw [bs8_len, expandV_len, List.length_replicate] | simp) ?_
        intro w hS
        try simp only [List.set] at hS
        refine WL.pv (pv_assign rfl) rfl ?_
        refine WL.nil ?_
        refine QN.thenW ?_
        refine WC.ret ?_
        refine QN.thenR ?_
        refine QN.retKT (k := 0) rfl rfl hS rfl (by first | rw [aggT_25, bs8_len, expandV_len] | (rw [aggT_25]; simp)) rfl ?_
        refine ⟨?_, hS.fr⟩
        rw [useV_arg hNm (by omega), ← bs8_zero]
      · skip
        obtain ⟨q, rfl⟩ : ∃ q : Nat, g = (q : Int) := ⟨g.toNat, by omega⟩
        refine WC.skip ?_
        refine QN.thenW ?_
        refine WC.seq ?_
        refine WC.region ?_
        refine WL.pv (pv_assign rfl) rfl ?_
        refine WL.nil ?_
        refine QN.thenW ?_
        refine WC.seq ?_
        replace hS := hS.addNil 5 1
        refine WC.region ?_
        refine WL.pv (pv_move rfl) rfl ?_
        refine WL.pv (pv_move rfl) rfl ?_
        refine WL.appendStr (k := 0) (N := 65536) hS slT_22 zlenT_5 Try.underlying9 rfl rfl rfl (by simp; omega) (by omega) (by simp [maxLen]) rfl ?_
        intro v26 w hFr26 hS
        try simp only [List.set] at hS
        rw [List.nil_append] at hS
        refine WL.pv (pv_assign rfl) rfl ?_
        refine WL.nil ?_
        refine QN.thenW ?_
        refine WC.seq ?_
        refine WC.region ?_
        refine WL.pv (pv_move rfl) rfl ?_
        refine WL.build1 (v := b8 0) hS slT_22 zeroT_5 rfl rfl rfl rfl ?_
        intro b28 w hb28 hS
        refine WL.append (k := 1) (N := 65536) hS slT_22 zlenT_5 (by decide) rfl rfl rfl ((hS.bk (k := 0) rfl).rs 0 1 1 1 (by omega) (by simp [maxLen]) (by simp)) (by simp [Value.oneCell']) (by simp [bs8_len]; omega) (by omega) (by simp [maxLen]) rfl ?_
        intro v29 w hFr29 hS
        try simp only [List.set] at hS
        rw [show List.take (1 * 1) (List.drop 0 [b8 0]) = bs8 [0] from rfl, ← bs8_app] at hS
        refine WL.pv (pv_assign rfl) rfl ?_
        refine WL.nil ?_
        refine QN.thenW ?_
        refine WC.seq ?_
        refine WC.region ?_
        refine WL.pv (pv_move rfl) rfl ?_
        refine WL.pv (pv_move rfl) rfl ?_
        refine WL.pv (pv_conv someT_3 Try.underlying86 rfl (cv_i_64 _)) rfl ?_
        refine WL.call (args := [.tmp 32, .const (.int .i64 4)]) cf_61 rfl rfl (beBytes_c (UInt64.ofNat q) 4 _ (by omega)) ?_
        rintro _ w ⟨vb, rfl, hF, hRb, hfb⟩
        refine ⟨_, rfl, ?_⟩
        replace hS := hS.no hF
        refine WL.append (k := 1) (N := 65536) hS slT_22 zlenT_5 (by decide) rfl rfl rfl hRb.rs bs8_one (by rw [bs8_len, bs8_len, beB_len]; simp; omega) (by omega) (by simp [maxLen]) rfl ?_
        intro v34 w hFr34 hS
        try simp only [List.set] at hS
        rw [← bs8_app, show s.data.toList ++ [0] ++ beB (UInt64.ofNat q) 4 = useInfo s (q : Int) from by rw [useInfo, Int.toNat_natCast]] at hS
        obtain ⟨A3, m3, c3, rfl, hm3, _, _⟩ := (hS.rw_ (k := 1) rfl).anyForm
        refine WL.pv (pv_assign rfl) rfl ?_
        refine WL.nil ?_
        refine QN.thenW ?_
        refine WC.seq ?_
        refine WC.region ?_
        refine WL.buildV (parts := [(0, .const (.int .u8 115)), (1, .const (.int .u8 99)), (2, .const (.int .u8 114)), (3, .const (.int .u8 105)), (4, .const (.int .u8 110)), (5, .const (.int .u8 105)), (6, .const (.int .u8 117)), (7, .const (.int .u8 109))]) (vs := [b8 115, b8 99, b8 114, b8 105, b8 110, b8 105, b8 117, b8 109]) hS slT_22 zeroT_5 (by simp) rfl rfl rfl (by simp [Value.cells]) rfl rfl ?_
        intro b36 w hb36 hS
        refine WL.convS (k := 0) hS Try.underlying22 Try.underlying5 rfl rfl rfl ?_
        intro w hS
        refine WL.rv (rv_load_all (k := 4) hS rfl rfl (by rw [aggT_25, bs8_len, hml])) rfl ?_
        refine WL.call (args := [.tmp 38]) cf_63 rfl rfl (refBytes_c master hml _) ?_
        rintro _ w ⟨vk, rfl, hF, hRk, hfk⟩
        refine ⟨_, rfl, ?_⟩
        replace hS := hS.no hF
        obtain ⟨A4, m4, c4, rfl, _, _, _⟩ := hRk.anyForm
        refine WL.call (args := [.tmp 37, .tmp 39]) cf_31 rfl rfl (refExtract_c _ _ 8 8 _ _ scrL master _ (Bk.rsAll (hS.bk (k := 0) rfl) rfl (by simp [maxLen])) hRk.rs (by simp [scrL]) (by omega)) ?_
        rintro _ w ⟨rfl, hF⟩
        refine ⟨_, rfl, ?_⟩
        replace hS := hS.no hF
        refine WL.pv (pv_move rfl) rfl ?_
        refine WL.call (args := [.tmp 40, .tmp 41, .const (.int .i64 32)]) cf_33 rfl rfl (refExpand_c _ _ _ 32 (extractV scrL master) (useInfo s (q : Int)) _ (extractV_len _ _) (hS.rw_ (k := 2) rfl).rs (by rw [useInfo]; simp [beB_len]; omega) (by omega)) ?_
        rintro _ wv ⟨v, rfl, hF, hv⟩
        refine ⟨_, rfl, ?_⟩
        replace hS := hS.no hF
        obtain ⟨Av, mv, cv, rfl, _, _, _, _⟩ := id hv
        have hmv := hv.len
        rw [bs8_len, expandV_len] at hmv
        refine WL.pv (pv_move rfl) rfl ?_
        refine WL.pv (pv_extL rfl rfl) rfl ?_
        refine WL.pv (pv_extL rfl rfl) rfl ?_
        refine WL.pv (pv_assign rfl) rfl ?_
        refine WL.pv (pv_assign rfl) rfl ?_
        refine WL.nil ?_
        refine QN.thenW ?_
        refine WC.seq ?_
        have hO := hS
        have hv0 := hv
        replace hS := ST.start wv No
        refine WC.region ?_
        refine WL.pv (pv_buildA (parts := []) arrT_25 zeroT_25 rfl rfl) rfl ?_
        refine WL.alloc hS zeroT_25 rfl ?_
        intro b11 w hb11 hS
        refine WL.storeAll (k := 0) (vs := List.replicate 32 (b8 0)) hS (by rw [sizeT_25]; simp) rfl rfl rfl (by simp [Value.oneCell']) (by simp) ?_
        intro w hS
        try simp only [List.set] at hS
        rw [bs8_zero, ← fillB_zero (fun j => (expandV (extractV scrL master) (useInfo s (q : Int)) 32).getD j 0) 32] at hS
        refine WL.nil ?_
        refine QN.thenW ?_
        refine WC.seq ?_
        refine WC.seq ?_
        refine WC.region ?_
        refine WL.pv (pv_assign rfl) rfl ?_
        refine WL.nil ?_
        refine QN.thenW ?_
        refine WC.block ?_
        refine WC.loop (α := Nat) (fun k => [(6, .pointer (some ⟨b6, 0, none⟩)), (9, .slice Av mv cv), (11, .pointer (some ⟨b11, 0, none⟩)), (12, .int .i64 (k : Int))]) (fun k w => k ≤ 32 ∧ ST wv No w [.blk b11 25 (bs8 (fillB (fun j => (expandV (extractV scrL master) (useInfo s (q : Int)) 32).getD j 0) 32 k))]) (fun k => 32 - k) (0) (Sub.cons rfl (Sub.cons rfl (Sub.cons rfl (Sub.cons rfl Sub.nil)))) ⟨by omega, hS⟩ ?_
        rintro k w N hN hR
        obtain ⟨hk, hS⟩ := hR
        have hv := hv0.no hS.fr
        refine WC.seq ?_
        refine WC.seq ?_
        refine WC.region ?_
        refine WL.pv (pv_move rfl) rfl ?_
        refine WL.pv (pv_lss rfl rfl) rfl ?_
        refine WL.nil ?_
        refine QN.thenW ?_
        refine WC.condD rfl (fun hc47 => ?_) (fun hc47 => ?_)
        · skip
          have hk32 : k < 32 := by omega
          obtain ⟨bv, ov, rfl, _, _, _, hcv⟩ := hv.at_ (by rw [bs8_len, expandV_len]; omega)
          refine WC.skip ?_
          refine QN.thenW ?_
          refine WC.seq ?_
          refine WC.block ?_
          refine WC.region ?_
          refine WL.pv (pv_move rfl) rfl ?_
          refine WL.pv (pv_move rfl) rfl ?_
          refine WL.pv (pv_move rfl) rfl ?_
          refine WL.pv (pv_indexAddrS1 (j := k) slT_22 rfl rfl (by omega) (by omega)) rfl ?_
          refine WL.rv (rv_load oneT_5 rfl (hcv k _ (bs8_at (by rw [expandV_len]; omega)))) rfl ?_
          refine WL.pv (pv_indexAddrA1Z (j := k) arrT_25 rfl rfl (by omega) (by omega)) rfl ?_
          refine WL.store (k := 0) hS sizeT_5 rfl rfl rfl rfl (by rw [bs8_len, fillB_len]; omega) ?_
          intro w hS
          try simp only [List.set] at hS
          rw [bs8_set, show (expandV (extractV scrL master) (useInfo s (q : Int)) 32)[k]'(by rw [expandV_len]; omega) = (fun j => (expandV (extractV scrL master) (useInfo s (q : Int)) 32).getD j 0) k from by simp [expandV_len, hk32], fillB_set] at hS
          refine WL.nil ?_
          refine QN.blockN ?_
          refine QN.thenW ?_
          refine WC.region ?_
          refine WL.pv (pv_move rfl) rfl ?_
          refine WL.pv (pv_add rfl rfl (by omega)) rfl ?_
          refine WL.pv (pv_assign rfl) rfl ?_
          refine WL.nil ?_
          refine QN.roundE ?_
          refine ⟨(k + 1), (Sub.cons rfl (Sub.cons rfl (Sub.cons rfl (Sub.cons rfl Sub.nil)))), ⟨by omega, hS⟩, ?_⟩
          first | omega | (dsimp only; omega)
        · skip
          obtain rfl : k = 32 := by omega
          rw [fillB_of _ (expandV_len _ _ _)] at hS
          refine WC.exit ?_
          refine QN.thenX ?_
          refine QN.thenX ?_
          refine QN.blockX ?_
          refine QN.thenW ?_
          refine WC.seq ?_
          replace hS := hO.join hS
          simp only [List.cons_append, List.nil_append] at hS
          refine WC.region ?_
          refine WL.rv (rv_load_all (k := 0) hS rfl rfl (by rw [aggT_25, bs8_len, expandV_len])) rfl ?_
          refine WL.storeAll (k := 4) (vs := _) hS (by first | rw [sizeT_25, bs8_len, expandV_len] | (rw [sizeT_25]; simp)) rfl rfl rfl (by first | exact bs8_one | simp [Value.oneCell']) (by first | rw [bs8_len, expandV_len, List.length_replicate] | simp) ?_
          intro w hS
          try simp only [List.set] at hS
          refine WL.pv (pv_assign rfl) rfl ?_
          refine WL.nil ?_
          refine QN.thenW ?_
          refine WC.ret ?_
          refine QN.retKT (k := 4) rfl rfl hS rfl (by first | rw [aggT_25, bs8_len, expandV_len] | (rw [aggT_25]; simp)) rfl ?_
          refine ⟨?_, hS.fr⟩
          rw [useV_yes hNm (by omega)]

end Go.Proofs.Ytjcebkhhgdgohaa
namespace Go.Proofs.Ytjcebkhhgdgohaa
open Go Go.RowKit Go.Eng
theorem cf_46 : callable Try.prog 46 = true := by kernel_rfl
theorem cf_47 : callable Try.prog 47 = true := by kernel_rfl
set_option maxRecDepth 100000 in
theorem hkdfUse_c (master : List UInt8) (s : ByteArray) (g : Int) (w0 : World) (hml : master.length = 32) (hmx : s.size ≤ 9223372036854775807) (hg : -9223372036854775808 ≤ g ∧ g ≤ 9223372036854775807) : Calls Try.prog 15 #[.agg (bs8 master).toArray, .string s, .int .i64 g] w0 fun e w => e = .returned (.bool true) ∧ Fr No w0 w := by
  refine calls_of_WC (args := [.agg (bs8 master).toArray, .string s, .int .i64 g]) Try.func15 rfl Try.ntmps15 rfl ?_
  show WC _ _ _ _ [(0, .agg (bs8 master).toArray), (1, .string s), (2, .int .i64 g)] _
  have hS := ST.start w0 No
  refine WC.seq ?_
  refine WC.region ?_
  refine WL.box (vs := bs8 master) hS rfl rfl rfl ?_
  intro b3 w hb3 hS
  refine WL.pv (pv_assign rfl) rfl ?_
  refine WL.nil ?_
  refine QN.thenW ?_
  refine WC.seq ?_
  refine WC.seq ?_
  refine WC.region ?_
  refine WL.call (args := []) cf_29 rfl rfl (wakesK_c _) ?_
  rintro _ w ⟨rfl, hF⟩
  refine ⟨_, rfl, ?_⟩
  replace hS := hS.no hF
  refine WL.pv (pv_not rfl) rfl ?_
  refine WL.nil ?_
  refine QN.thenW ?_
  refine WC.condF rfl rfl ?_
  refine WC.skip ?_
  refine QN.thenW ?_
  refine WC.seq ?_
  refine WC.seq ?_
  refine WC.region ?_
  refine WL.pv (pv_move rfl) rfl ?_
  refine WL.pv (pv_lenStr Try.underlying9 rfl) rfl ?_
  refine WL.pv (pv_gtr rfl rfl) rfl ?_
  refine WL.nil ?_
  refine QN.thenW ?_
  refine WC.condD rfl (fun hc15 => ?_) (fun hc15 => ?_)
  · skip
    refine WC.seq ?_
    refine WC.region ?_
    refine WL.pv (pv_assign rfl) rfl ?_
    refine WL.nil ?_
    refine QN.thenW ?_
    refine WC.ret ?_
    refine QN.thenR ?_
    refine QN.ret1 rfl rfl ?_
    exact ⟨by simp, hS.fr⟩
  · skip
    refine WC.skip ?_
    refine QN.thenW ?_
    refine WC.seq ?_
    refine WC.region ?_
    refine WL.rv (rv_load_all (k := 0) hS rfl rfl (by rw [aggT_25, bs8_len, hml])) rfl ?_
    refine WL.pv (pv_move rfl) rfl ?_
    refine WL.pv (pv_move rfl) rfl ?_
    refine WL.call (args := [.tmp 17, .tmp 18, .tmp 19]) cf_46 rfl rfl (use_c master s g _ hml (by omega) hg) ?_
    rintro _ w ⟨rfl, hF⟩
    refine ⟨_, rfl, ?_⟩
    replace hS := hS.no hF
    refine WL.pv (pv_move rfl) rfl ?_
    refine WL.pv (pv_extL rfl rfl) rfl ?_
    refine WL.pv (pv_extL rfl rfl) rfl ?_
    refine WL.alloc hS zeroT_25 rfl ?_
    intro b7 w hb7 hS
    refine WL.storeAll (k := 0) (vs := bs8 (useV master s g).1) hS (by rw [sizeT_25, bs8_len, useV_len]) rfl rfl rfl bs8_one (by rw [bs8_len, useV_len]; simp) ?_
    intro w hS
    try simp only [List.set] at hS
    refine WL.pv (pv_assign rfl) rfl ?_
    refine WL.nil ?_
    refine QN.thenW ?_
    refine WC.seq ?_
    refine WC.region ?_
    refine WL.rv (rv_load_all (k := 1) hS rfl rfl (by rw [aggT_25, bs8_len, hml])) rfl ?_
    refine WL.pv (pv_move rfl) rfl ?_
    refine WL.pv (pv_move rfl) rfl ?_
    refine WL.call (args := [.tmp 24, .tmp 25, .tmp 26]) cf_47 rfl rfl (refUse_c master s g _ hml (by omega) hg) ?_
    rintro _ w ⟨rfl, hF⟩
    refine ⟨_, rfl, ?_⟩
    replace hS := hS.no hF
    refine WL.pv (pv_move rfl) rfl ?_
    refine WL.pv (pv_extL rfl rfl) rfl ?_
    refine WL.pv (pv_extL rfl rfl) rfl ?_
    refine WL.alloc hS zeroT_25 rfl ?_
    intro b9 w hb9 hS
    refine WL.storeAll (k := 0) (vs := bs8 (useV master s g).1) hS (by rw [sizeT_25, bs8_len, useV_len]) rfl rfl rfl bs8_one (by rw [bs8_len, useV_len]; simp) ?_
    intro w hS
    try simp only [List.set] at hS
    refine WL.pv (pv_assign rfl) rfl ?_
    refine WL.nil ?_
    refine QN.thenW ?_
    refine WC.seq ?_
    refine WC.region ?_
    refine WL.rv (rv_load_all (k := 1) hS rfl rfl (by rw [aggT_25, bs8_len, useV_len])) rfl ?_
    refine WL.rv (rv_load_all (k := 0) hS rfl rfl (by rw [aggT_25, bs8_len, useV_len])) rfl ?_
    refine WL.pv (pv_eqlA8 Try.underlying25 Try.underlying5 cellsT_5 eqgT_25 rfl rfl (useV_len _ _ _) (useV_len _ _ _)) rfl ?_
    refine WL.pv (pv_move rfl) rfl ?_
    refine WL.guardT rfl rfl rfl (lkT rfl (by rfl)) ?_
    refine WL.pv (pv_move rfl) rfl ?_
    refine WL.guardT rfl rfl rfl (lkT rfl (by rfl)) ?_
    refine WL.pv (pv_move rfl) rfl ?_
    refine WL.guardT rfl rfl rfl (lkT rfl (by rfl)) ?_
    refine WL.pv (pv_eql rfl rfl) rfl ?_
    refine WL.pv (pv_pick1 (lkT rfl (by rfl)) rfl) rfl ?_
    refine WL.pv (pv_assign rfl) rfl ?_
    refine WL.nil ?_
    refine QN.thenW ?_
    refine WC.ret ?_
    refine QN.ret1 rfl rfl ?_
    exact ⟨by simp, hS.fr⟩

end Go.Proofs.Ytjcebkhhgdgohaa
