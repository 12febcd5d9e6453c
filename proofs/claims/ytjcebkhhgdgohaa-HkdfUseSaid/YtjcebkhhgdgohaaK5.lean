/- What a few functions of the program compute, part K5. -/
import Derived.Test.YtjcebkhhgdgohaaK4
namespace Go.Proofs.Ytjcebkhhgdgohaa
open Go Go.RowKit Go.Eng
theorem cf_29 : callable Try.prog 29 = true := by kernel_rfl
theorem cf_31 : callable Try.prog 31 = true := by kernel_rfl
theorem cf_64 : callable Try.prog 64 = true := by kernel_rfl
set_option maxRecDepth 100000 in
theorem hkdfExtract_c (A B : Option Addr) (m c m2 c2 : Nat) (salt text : List UInt8) (w0 : World) (hk : Rs w0 (.slice A m c) 1 (bs8 salt)) (ht : Rs w0 (.slice B m2 c2) 1 (bs8 text)) : Calls Try.prog 10 #[.slice A m c, .slice B m2 c2] w0 fun e w => e = .returned (.bool true) ∧ Fr No w0 w := by
  have hln := hk.len
  rw [bs8_len] at hln
  have hln2 := ht.len
  rw [bs8_len] at hln2
  have hmx : m ≤ 9223372036854775807 := by have := hln; simp only [maxLen] at this; omega
  have hmx2 : m2 ≤ 9223372036854775807 := by have := hln2; simp only [maxLen] at this; omega
  refine calls_of_WC (args := [.slice A m c, .slice B m2 c2]) Try.func10 rfl Try.ntmps10 rfl ?_
  show WC _ _ _ _ [(0, .slice A m c), (1, .slice B m2 c2)] _
  have hS := ST.start w0 No
  refine WC.seq ?_
  refine WC.region ?_
  refine WL.pv (pv_assign rfl) rfl ?_
  refine WL.nil ?_
  refine QN.thenW ?_
  refine WC.seq ?_
  refine WC.seq ?_
  refine WC.region ?_
  refine WL.call (args := []) cf_29 rfl rfl (wakesK_c _) ?_
  rintro _ w ⟨rfl, hF⟩
  refine ⟨_, rfl, ?_⟩
  replace hS := hS.no hF
  refine WL.pv (pv_not rfl) rfl ?_
  refine WL.nil ?_
  refine QN.thenW ?_
  refine WC.condF rfl rfl ?_
  refine WC.skip ?_
  refine QN.thenW ?_
  refine WC.seq ?_
  refine WC.seq ?_
  by_cases h300 : m ≤ 300
  · skip
    refine WC.region ?_
    refine WL.pv (pv_move rfl) rfl ?_
    refine WL.pv (pv_len slS_22 rfl) rfl ?_
    refine WL.pv (pv_gtr rfl rfl) rfl ?_
    refine WL.pv (pv_move rfl) rfl ?_
    refine WL.guardT rfl rfl rfl (lkF rfl (by omega)) ?_
    refine WL.pv (pv_move rfl) rfl ?_
    refine WL.guardT rfl rfl rfl (lkF rfl (by omega)) ?_
    refine WL.pv (pv_len slS_22 rfl) rfl ?_
    refine WL.guardT rfl rfl rfl (lkF rfl (by omega)) ?_
    refine WL.pv (pv_gtr rfl rfl) rfl ?_
    refine WL.pv (pv_pick0 (lkF rfl (by omega)) rfl) rfl ?_
    refine WL.nil ?_
    refine QN.thenW ?_
    refine WC.condD rfl (fun hc14 => ?_) (fun hc14 => ?_)
    · skip
      refine WC.seq ?_
      refine WC.region ?_
      refine WL.pv (pv_assign rfl) rfl ?_
      refine WL.nil ?_
      refine QN.thenW ?_
      refine WC.ret ?_
      refine QN.thenR ?_
      refine QN.ret1 rfl rfl ?_
      exact ⟨by simp, hS.fr⟩
    · skip
      refine WC.skip ?_
      refine QN.thenW ?_
      refine WC.seq ?_
      refine WC.region ?_
      refine WL.pv (pv_move rfl) rfl ?_
      refine WL.pv (pv_move rfl) rfl ?_
      refine WL.call (args := [.tmp 15, .tmp 16]) cf_30 rfl rfl (extract_c _ _ _ _ _ _ salt text _ (hk.no hS.fr) (ht.no hS.fr)) ?_
      rintro _ w ⟨rfl, hF⟩
      refine ⟨_, rfl, ?_⟩
      replace hS := hS.no hF
      refine WL.pv (pv_move rfl) rfl ?_
      refine WL.pv (pv_move rfl) rfl ?_
      refine WL.call (args := [.tmp 18, .tmp 19]) cf_31 rfl rfl (refExtract_c _ _ _ _ _ _ salt text _ (hk.no hS.fr) (ht.no hS.fr) (by omega) (by omega)) ?_
      rintro _ w ⟨rfl, hF⟩
      refine ⟨_, rfl, ?_⟩
      replace hS := hS.no hF
      refine WL.pv (pv_eqlA8 Try.underlying25 Try.underlying5 cellsT_5 eqgT_25 rfl rfl (extractV_len _ _) (extractV_len _ _)) rfl ?_
      refine WL.pv (pv_assign rfl) rfl ?_
      refine WL.nil ?_
      refine QN.thenW ?_
      refine WC.ret ?_
      refine QN.ret1 rfl rfl ?_
      exact ⟨by simp, hS.fr⟩
  · skip
    refine WC.region ?_
    refine WL.pv (pv_move rfl) rfl ?_
    refine WL.pv (pv_len slS_22 rfl) rfl ?_
    refine WL.pv (pv_gtr rfl rfl) rfl ?_
    refine WL.pv (pv_move rfl) rfl ?_
    refine WL.guardF rfl rfl rfl (lkT rfl (by omega)) rfl rfl ?_
    refine WL.guardF rfl rfl rfl (lkT rfl (by omega)) rfl rfl ?_
    refine WL.guardF rfl rfl rfl (lkT rfl (by omega)) rfl rfl ?_
    refine WL.pv (pv_pick1 (lkT rfl (by omega)) rfl) rfl ?_
    refine WL.nil ?_
    refine QN.thenW ?_
    refine WC.condT rfl rfl ?_
    refine WC.seq ?_
    refine WC.region ?_
    refine WL.pv (pv_assign rfl) rfl ?_
    refine WL.nil ?_
    refine QN.thenW ?_
    refine WC.ret ?_
    refine QN.thenR ?_
    refine QN.ret1 rfl rfl ?_
    exact ⟨by simp, hS.fr⟩

set_option maxRecDepth 100000 in
theorem expandNo_c (B : Option Addr) (m2 c2 : Nat) (n : Int) (key : List UInt8) (w0 : World) (hn : n < 0 ∨ 8160 < n) : Calls Try.prog 32 #[.agg (bs8 key).toArray, .slice B m2 c2, .int .i64 n] w0 fun e w => e = .returned (.tuple #[.slice none 0 0, .int .i64 14]) ∧ Fr No w0 w := by
  refine calls_of_WC (args := [.agg (bs8 key).toArray, .slice B m2 c2, .int .i64 n]) Try.func32 rfl Try.ntmps32 rfl ?_
  show WC _ _ _ _ [(0, .agg (bs8 key).toArray), (1, .slice B m2 c2), (2, .int .i64 n)] _
  have hS := ST.start w0 No
  refine WC.seq ?_
  refine WC.region ?_
  refine WL.box (vs := bs8 key) hS rfl rfl rfl ?_
  intro b3 w hb3 hS
  refine WL.pv (pv_assign rfl) rfl ?_
  refine WL.pv (pv_assign rfl) rfl ?_
  refine WL.nil ?_
  refine QN.thenW ?_
  refine WC.seq ?_
  refine WC.seq ?_
  by_cases hneg : n < 0
  · skip
    refine WC.region ?_
    refine WL.pv (pv_move rfl) rfl ?_
    refine WL.pv (pv_lss rfl rfl) rfl ?_
    refine WL.pv (pv_move rfl) rfl ?_
    refine WL.guardF rfl rfl rfl (lkT rfl (by omega)) rfl rfl ?_
    refine WL.guardF rfl rfl rfl (lkT rfl (by omega)) rfl rfl ?_
    refine WL.pv (pv_pick1 (lkT rfl (by omega)) rfl) rfl ?_
    refine WL.nil ?_
    refine QN.thenW ?_
    refine WC.condT rfl rfl ?_
    refine WC.seq ?_
    refine WC.region ?_
    refine WL.pv (pv_assign rfl) rfl ?_
    refine WL.pv (pv_assign rfl) rfl ?_
    refine WL.nil ?_
    refine QN.thenW ?_
    refine WC.ret ?_
    refine QN.thenR ?_
    refine QN.ret2 rfl rfl rfl ?_
    exact ⟨rfl, hS.fr⟩
  · skip
    refine WC.region ?_
    refine WL.pv (pv_move rfl) rfl ?_
    refine WL.pv (pv_lss rfl rfl) rfl ?_
    refine WL.pv (pv_move rfl) rfl ?_
    refine WL.guardT rfl rfl rfl (lkF rfl (by omega)) ?_
    refine WL.pv (pv_move rfl) rfl ?_
    refine WL.guardT rfl rfl rfl (lkF rfl (by omega)) ?_
    refine WL.pv (pv_gtr rfl rfl) rfl ?_
    refine WL.pv (pv_pick0 (lkF rfl (by omega)) rfl) rfl ?_
    refine WL.nil ?_
    refine QN.thenW ?_
    refine WC.condDT rfl (by omega) ?_
    refine WC.seq ?_
    refine WC.region ?_
    refine WL.pv (pv_assign rfl) rfl ?_
    refine WL.pv (pv_assign rfl) rfl ?_
    refine WL.nil ?_
    refine QN.thenW ?_
    refine WC.ret ?_
    refine QN.thenR ?_
    refine QN.ret2 rfl rfl rfl ?_
    exact ⟨rfl, hS.fr⟩

set_option maxRecDepth 100000 in
theorem refExpandNo_c (B : Option Addr) (m2 c2 : Nat) (n : Int) (key : List UInt8) (w0 : World) (hn : n < 0 ∨ 8160 < n) : Calls Try.prog 33 #[.agg (bs8 key).toArray, .slice B m2 c2, .int .i64 n] w0 fun e w => e = .returned (.tuple #[.slice none 0 0, .int .i64 14]) ∧ Fr No w0 w := by
  refine calls_of_WC (args := [.agg (bs8 key).toArray, .slice B m2 c2, .int .i64 n]) Try.func33 rfl Try.ntmps33 rfl ?_
  show WC _ _ _ _ [(0, .agg (bs8 key).toArray), (1, .slice B m2 c2), (2, .int .i64 n)] _
  have hS := ST.start w0 No
  refine WC.seq ?_
  refine WC.region ?_
  refine WL.box (vs := bs8 key) hS rfl rfl rfl ?_
  intro b3 w hb3 hS
  refine WL.pv (pv_assign rfl) rfl ?_
  refine WL.pv (pv_assign rfl) rfl ?_
  refine WL.nil ?_
  refine QN.thenW ?_
  refine WC.seq ?_
  refine WC.seq ?_
  by_cases hneg : n < 0
  · skip
    refine WC.region ?_
    refine WL.pv (pv_move rfl) rfl ?_
    refine WL.pv (pv_lss rfl rfl) rfl ?_
    refine WL.pv (pv_move rfl) rfl ?_
    refine WL.guardF rfl rfl rfl (lkT rfl (by omega)) rfl rfl ?_
    refine WL.guardF rfl rfl rfl (lkT rfl (by omega)) rfl rfl ?_
    refine WL.pv (pv_pick1 (lkT rfl (by omega)) rfl) rfl ?_
    refine WL.nil ?_
    refine QN.thenW ?_
    refine WC.condT rfl rfl ?_
    refine WC.seq ?_
    refine WC.region ?_
    refine WL.pv (pv_assign rfl) rfl ?_
    refine WL.pv (pv_assign rfl) rfl ?_
    refine WL.nil ?_
    refine QN.thenW ?_
    refine WC.ret ?_
    refine QN.thenR ?_
    refine QN.ret2 rfl rfl rfl ?_
    exact ⟨rfl, hS.fr⟩
  · skip
    refine WC.region ?_
    refine WL.pv (pv_move rfl) rfl ?_
    refine WL.pv (pv_lss rfl rfl) rfl ?_
    refine WL.pv (pv_move rfl) rfl ?_
    refine WL.guardT rfl rfl rfl (lkF rfl (by omega)) ?_
    refine WL.pv (pv_move rfl) rfl ?_
    refine WL.guardT rfl rfl rfl (lkF rfl (by omega)) ?_
    refine WL.pv (pv_gtr rfl rfl) rfl ?_
    refine WL.pv (pv_pick0 (lkF rfl (by omega)) rfl) rfl ?_
    refine WL.nil ?_
    refine QN.thenW ?_
    refine WC.condDT rfl (by omega) ?_
    refine WC.seq ?_
    refine WC.region ?_
    refine WL.pv (pv_assign rfl) rfl ?_
    refine WL.pv (pv_assign rfl) rfl ?_
    refine WL.nil ?_
    refine QN.thenW ?_
    refine WC.ret ?_
    refine QN.thenR ?_
    refine QN.ret2 rfl rfl rfl ?_
    exact ⟨rfl, hS.fr⟩

set_option maxHeartbeats 1000000 in
set_option maxRecDepth 100000 in
theorem refExpand_c (B : Option Addr) (m2 c2 n : Nat) (key info : List UInt8) (w0 : World) (hkl : key.length = 32) (hi : Rs w0 (.slice B m2 c2) 1 (bs8 info)) (hil : info.length ≤ 5000) (hn : n ≤ 8160) : Calls Try.prog 33 #[.agg (bs8 key).toArray, .slice B m2 c2, .int .i64 (n : Int)] w0 (ExpPost key info n w0) := by
  refine calls_of_WC (args := [.agg (bs8 key).toArray, .slice B m2 c2, .int .i64 (n : Int)]) Try.func33 rfl Try.ntmps33 rfl ?_
  show WC _ _ _ _ [(0, .agg (bs8 key).toArray), (1, .slice B m2 c2), (2, .int .i64 (n : Int))] _
  have hS := ST.start w0 No
  refine WC.seq ?_
  refine WC.region ?_
  refine WL.box (vs := bs8 key) hS rfl rfl rfl ?_
  intro b3 w hb3 hS
  refine WL.pv (pv_assign rfl) rfl ?_
  refine WL.pv (pv_assign rfl) rfl ?_
  refine WL.nil ?_
  refine QN.thenW ?_
  refine WC.seq ?_
  refine WC.seq ?_
  refine WC.region ?_
  refine WL.pv (pv_move rfl) rfl ?_
  refine WL.pv (pv_lss rfl rfl) rfl ?_
  refine WL.pv (pv_move rfl) rfl ?_
  refine WL.guardT rfl rfl rfl (lkF rfl (by omega)) ?_
  refine WL.pv (pv_move rfl) rfl ?_
  refine WL.guardT rfl rfl rfl (lkF rfl (by omega)) ?_
  refine WL.pv (pv_gtr rfl rfl) rfl ?_
  refine WL.pv (pv_pick0 (lkF rfl (by omega)) rfl) rfl ?_
  refine WL.nil ?_
  refine QN.thenW ?_
  refine WC.condDF rfl (by omega) ?_
  refine WC.skip ?_
  refine QN.thenW ?_
  refine WC.seq ?_
  refine WC.region ?_
  refine WL.pv (pv_assign rfl) rfl ?_
  refine WL.nil ?_
  refine QN.thenW ?_
  refine WC.seq ?_
  refine WC.region ?_
  refine WL.pv (pv_assign rfl) rfl ?_
  refine WL.nil ?_
  refine QN.thenW ?_
  refine WC.seq ?_
  refine WC.seq ?_
  refine WC.region ?_
  refine WL.pv (pv_assign rfl) rfl ?_
  refine WL.nil ?_
  refine QN.thenW ?_
  refine WC.block ?_
  replace hS := (hS.addNil 5 1).addNil 5 1
  refine WC.loop (α := Nat × Value × Value) (fun s => [(1, .slice B m2 c2), (2, .int .i64 (n : Int)), (3, .pointer (some ⟨b3, 0, none⟩)), (8, s.2.1), (9, s.2.2), (10, .int .i64 ((s.1 + 1 : Nat) : Int))]) (fun s w => 32 * s.1 < n + 32 ∧ ST w0 No w [.row s.2.2 5 1 (bs8 (expL key info s.1)), .row s.2.1 5 1 (bs8 (expO key info s.1)), .blk b3 25 (bs8 key)]) (fun s => n + 32 - 32 * s.1) ((0, .slice none 0 0, .slice none 0 0)) (Sub.cons rfl (Sub.cons rfl (Sub.cons rfl (Sub.cons rfl (Sub.cons rfl (Sub.cons rfl Sub.nil)))))) ⟨by show 32 * 0 < n + 32; omega, hS⟩ ?_
  rintro ⟨k, v8, v9⟩ w N hN hR
  change N = n + 32 - 32 * k at hN
  change 32 * k < n + 32 ∧ ST w0 No w [.row v9 5 1 (bs8 (expL key info k)), .row v8 5 1 (bs8 (expO key info k)), .blk b3 25 (bs8 key)] at hR
  show WC _ _ _ _ [(1, .slice B m2 c2), (2, .int .i64 (n : Int)), (3, .pointer (some ⟨b3, 0, none⟩)), (8, v8), (9, v9), (10, .int .i64 ((k + 1 : Nat) : Int))] _
  obtain ⟨hk0, hS⟩ := hR
  obtain ⟨A8, m8, c8, rfl, hm8, hc8, hmx8⟩ := (hS.rw_ (k := 1) rfl).anyForm
  rw [bs8_len, expO_len, Nat.mul_one] at hm8
  obtain ⟨A9, m9, c9, rfl, hm9, hc9, hmx9⟩ := (hS.rw_ (k := 0) rfl).anyForm
  have hle := expL_le key info k
  refine WC.seq ?_
  refine WC.seq ?_
  refine WC.region ?_
  refine WL.pv (pv_move rfl) rfl ?_
  refine WL.pv (pv_len slS_22 rfl) rfl ?_
  refine WL.pv (pv_move rfl) rfl ?_
  refine WL.pv (pv_lss rfl rfl) rfl ?_
  refine WL.nil ?_
  refine QN.thenW ?_
  refine WC.condD rfl (fun hc21 => ?_) (fun hc21 => ?_)
  · skip
    refine WC.skip ?_
    refine QN.thenW ?_
    refine WC.seq ?_
    refine WC.block ?_
    refine WC.seq ?_
    refine WC.region ?_
    refine WL.pv (pv_move rfl) rfl ?_
    refine WL.pv (pv_move rfl) rfl ?_
    refine WL.call (args := [.tmp 24, .tmp 25]) cf_64 rfl rfl (join_c _ _ _ _ _ _ _ info _ (hS.rw_ (k := 0) rfl).rs (hi.no hS.fr) (by omega)) ?_
    rintro _ w ⟨vj, rfl, hF, hRj, hfj⟩
    refine ⟨_, rfl, ?_⟩
    replace hS := hS.add (e := .row vj 5 1 _) hF hRj hfj
    refine WL.pv (pv_assign rfl) rfl ?_
    refine WL.nil ?_
    refine QN.thenW ?_
    refine WC.seq ?_
    refine WC.region ?_
    refine WL.pv (pv_move rfl) rfl ?_
    refine WL.pv (pv_move rfl) rfl ?_
    refine WL.pv (pv_conv someT_3 Try.underlying5 rfl (cv_i_8 _)) rfl ?_
    refine WL.build1 hS slT_22 zeroT_5 rfl rfl rfl rfl ?_
    intro b30 w hb30 hS
    refine WL.append (k := 1) (N := 65536) hS slT_22 zlenT_5 (by decide) rfl rfl rfl ((hS.bk (k := 0) rfl).rs 0 1 1 1 (by omega) (by simp [maxLen]) (by simp)) (by simp [Value.oneCell']) (by simp [bs8_len]; omega) (by omega) (by simp [maxLen]) rfl ?_
    intro v31 w hFr31 hS
    try simp only [List.set] at hS
    rw [show List.take (1 * 1) (List.drop 0 [b8 (UInt8.ofNat (k + 1))]) = bs8 [UInt8.ofNat (k + 1)] from rfl, ← bs8_app] at hS
    obtain ⟨A3, m3, c3, rfl, _, _, _⟩ := (hS.rw_ (k := 1) rfl).anyForm
    refine WL.pv (pv_assign rfl) rfl ?_
    refine WL.nil ?_
    refine QN.thenW ?_
    refine WC.seq ?_
    refine WC.region ?_
    refine WL.rv (rv_load_all (k := 4) hS rfl rfl (by rw [aggT_25, bs8_len, hkl])) rfl ?_
    refine WL.call (args := [.tmp 32]) cf_63 rfl rfl (refBytes_c key hkl _) ?_
    rintro _ w ⟨vk, rfl, hF, hRk, hfk⟩
    refine ⟨_, rfl, ?_⟩
    replace hS := hS.add (e := .row vk 5 1 _) hF hRk hfk
    obtain ⟨A4, m4, c4, rfl, _, _, _⟩ := hRk.anyForm
    refine WL.pv (pv_move rfl) rfl ?_
    refine WL.call (args := [.tmp 33, .tmp 34]) cf_27 rfl rfl (refTag_c _ _ _ _ _ _ key _ _ (hS.rw_ (k := 0) rfl).rs (hS.rw_ (k := 2) rfl).rs (by omega) (by rw [List.length_append, List.length_append]; simp; omega)) ?_
    rintro _ w ⟨rfl, hF⟩
    refine ⟨_, rfl, ?_⟩
    replace hS := hS.no hF
    change WL _ _ _ _ _ ((35, .agg (bs8 (expL key info (k + 1))).toArray) :: _) _
    refine WL.call (args := [.tmp 35]) cf_63 rfl rfl (refBytes_c (expL key info (k + 1)) (expL_len _ _ _) _) ?_
    rintro _ w ⟨vt, rfl, hF, hRt, hft⟩
    refine ⟨_, rfl, ?_⟩
    replace hS := hS.add (e := .row vt 5 1 _) hF hRt hft
    obtain ⟨A6, m6, c6, rfl, _, _, _⟩ := hRt.anyForm
    refine WL.pv (pv_assign rfl) rfl ?_
    refine WL.nil ?_
    refine QN.thenW ?_
    refine WC.region ?_
    refine WL.pv (pv_move rfl) rfl ?_
    refine WL.pv (pv_move rfl) rfl ?_
    refine WL.append (k := 5) (N := 65536) hS slT_22 zlenT_5 (by decide) rfl rfl rfl (hS.rw_ (k := 0) rfl).rs bs8_one (by simp [bs8_len, expL_len, expO_len]; omega) (by omega) (by simp [maxLen]) rfl ?_
    intro v39 w hFr39 hS
    try simp only [List.set] at hS
    rw [← bs8_app] at hS
    have hSe := (((hS.erase 1).erase 1).erase 1).erase 1
    simp only [List.eraseIdx_zero, List.eraseIdx_cons_succ, List.tail_cons] at hSe
    refine WL.pv (pv_assign rfl) rfl ?_
    refine WL.nil ?_
    refine QN.blockN ?_
    refine QN.thenW ?_
    refine WC.region ?_
    refine WL.pv (pv_move rfl) rfl ?_
    refine WL.pv (pv_add rfl rfl (by omega)) rfl ?_
    refine WL.pv (pv_assign rfl) rfl ?_
    refine WL.nil ?_
    refine QN.roundE ?_
    refine ⟨((k + 1, v39, _)), (Sub.cons rfl (Sub.cons rfl (Sub.cons rfl (Sub.cons rfl (Sub.cons rfl (Sub.cons rfl Sub.nil)))))), ⟨by show 32 * (k + 1) < n + 32; omega, hSe⟩, ?_⟩
    first | omega | (dsimp only; omega)
  · skip
    refine WC.exit ?_
    refine QN.thenX ?_
    refine QN.thenX ?_
    refine QN.blockX ?_
    refine QN.thenW ?_
    refine WC.seq ?_
    refine WC.region ?_
    refine WL.pv (pv_move rfl) rfl ?_
    refine WL.pv (pv_move rfl) rfl ?_
    refine WL.pv (pv_sliceH (b := n) slT_22 rfl rfl rfl (by omega)) rfl ?_
    refine WL.pv (pv_assign rfl) rfl ?_
    refine WL.pv (pv_assign rfl) rfl ?_
    refine WL.nil ?_
    refine QN.thenW ?_
    refine WC.ret ?_
    refine QN.ret2 rfl rfl rfl ?_
    refine ⟨_, rfl, hS.fr, ?_⟩
    rw [← expand_stop key info k n (by omega) hk0]
    exact (hS.rw_ (k := 1) rfl).rs.cutH8 (b := n) (by omega)

end Go.Proofs.Ytjcebkhhgdgohaa
