/- What a few functions of the program compute, part K9. -/
import Derived.Test.YtjcebkhhgdgohaaK8
namespace Go.Proofs.Ytjcebkhhgdgohaa
open Go Go.RowKit Go.Eng
theorem cf_70 : callable Try.prog 70 = true := by kernel_rfl

theorem fillB_of (l : List UInt8) {n : Nat} (h : l.length = n) : fillB (fun j => l.getD j 0) n n = l := by
  rw [fillB_all]
  apply List.ext_getElem (by simp [h])
  intro i h1 h2
  simp [h2]

set_option maxHeartbeats 1000000 in
set_option maxRecDepth 100000 in
theorem refUse_c (master : List UInt8) (s : ByteArray) (g : Int) (w0 : World) (hml : master.length = 32) (hs : s.size ≤ 1000) (hg : -9223372036854775808 ≤ g ∧ g ≤ 9223372036854775807) : Calls Try.prog 47 #[.agg (bs8 master).toArray, .string s, .int .i64 g] w0 (UsePost master s g w0) := by
  refine calls_of_WC (args := [.agg (bs8 master).toArray, .string s, .int .i64 g]) Try.func47 rfl Try.ntmps47 rfl ?_
  show WC _ _ _ _ [(0, .agg (bs8 master).toArray), (1, .string s), (2, .int .i64 g)] _
  have hS := ST.start w0 No
  refine WC.seq ?_
  refine WC.region ?_
  refine WL.box (vs := bs8 master) hS rfl rfl rfl ?_
  intro b3 w hb3 hS
  refine WL.alloc hS zeroT_25 rfl ?_
  intro b6 w hb6 hS
  refine WL.pv (pv_assign rfl) rfl ?_
  refine WL.nil ?_
  refine QN.thenW ?_
  refine WC.seq ?_
  refine WC.seq ?_
  refine WC.region ?_
  refine WL.pv (pv_move rfl) rfl ?_
  refine WL.call (args := [.tmp 13]) cf_70 rfl rfl (refNamed_c s _ hs) ?_
  rintro _ w ⟨t, rfl, ht, hF⟩
  refine ⟨_, rfl, ?_⟩
  replace hS := hS.no hF
  refine WL.pv (pv_not rfl) rfl ?_
  refine WL.nil ?_
  refine QN.thenW ?_
  refine WC.cond rfl (fun hc15 => ?_) (fun hc15 => ?_)
  · skip
    have hNm : ¬ Nam s := fun h => by have := ht.2 h; subst this; simp at hc15
    refine WC.seq ?_
    refine WC.region ?_
    refine WL.pv (pv_buildA (parts := []) arrT_25 zeroT_25 rfl rfl) rfl ?_
    refine WL.storeAll (k := 0) (vs := _) hS (by first | rw [sizeT_25, bs8_len, expandV_len] | (rw [sizeT_25]; simp)) rfl rfl rfl (by first | exact bs8_one | simp [Value.oneCell']) (by first | rw [bs8_len, expandV_len, List.length_replicate] | simp) ?_
    intro w hS
    try simp only [List.set] at hS
    refine WL.pv (pv_assign rfl) rfl ?_
    refine WL.nil ?_
    refine QN.thenW ?_
    refine WC.ret ?_
    refine QN.thenR ?_
    refine QN.retKT (k := 0) rfl rfl hS rfl (by first | rw [aggT_25, bs8_len, expandV_len] | (rw [aggT_25]; simp)) rfl ?_
    refine ⟨?_, hS.fr⟩
    rw [useV_no hNm, ← bs8_zero]
  · skip
    have hNm : Nam s := ht.1 (by simpa using hc15)
    refine WC.skip ?_
    refine QN.thenW ?_
    refine WC.seq ?_
    refine WC.seq ?_
    by_cases hneg : g < 0
    · skip
      refine WC.region ?_
      refine WL.pv (pv_move rfl) rfl ?_
      refine WL.pv (pv_lss rfl rfl) rfl ?_
      refine WL.pv (pv_move rfl) rfl ?_
      refine WL.guardF rfl rfl rfl (lkT rfl (by omega)) rfl rfl ?_
      refine WL.guardF rfl rfl rfl (lkT rfl (by omega)) rfl rfl ?_
      refine WL.pv (pv_pick1 (lkT rfl (by omega)) rfl) rfl ?_
      refine WL.nil ?_
      refine QN.thenW ?_
      refine WC.condT rfl rfl ?_
      refine WC.seq ?_
      refine WC.region ?_
      refine WL.pv (pv_buildA (parts := []) arrT_25 zeroT_25 rfl rfl) rfl ?_
      refine WL.storeAll (k := 0) (vs := _) hS (by first | rw [sizeT_25, bs8_len, expandV_len] | (rw [sizeT_25]; simp)) rfl rfl rfl (by first | exact bs8_one | simp [Value.oneCell']) (by first | rw [bs8_len, expandV_len, List.length_replicate] | simp) ?_
      intro w hS
      try simp only [List.set] at hS
      refine WL.pv (pv_assign rfl) rfl ?_
      refine WL.nil ?_
      refine QN.thenW ?_
      refine WC.ret ?_
      refine QN.thenR ?_
      refine QN.retKT (k := 0) rfl rfl hS rfl (by first | rw [aggT_25, bs8_len, expandV_len] | (rw [aggT_25]; simp)) rfl ?_
      refine ⟨?_, hS.fr⟩
      rw [useV_arg hNm (by omega), ← bs8_zero]
    · skip
      refine WC.region ?_
      refine WL.pv (pv_move rfl) rfl ?_
      refine WL.pv (pv_lss rfl rfl) rfl ?_
      refine WL.pv (pv_move rfl) rfl ?_
      refine WL.guardT rfl rfl rfl (lkF rfl (by omega)) ?_
      refine WL.pv (pv_move rfl) rfl ?_
      refine WL.guardT rfl rfl rfl (lkF rfl (by omega)) ?_
      refine WL.pv (pv_gtr rfl rfl) rfl ?_
      refine WL.pv (pv_pick0 (lkF rfl (by omega)) rfl) rfl ?_
      refine WL.nil ?_
      refine QN.thenW ?_
      refine WC.condD rfl (fun hc22 => ?_) (fun hc22 => ?_)
      · skip
        refine WC.seq ?_
        refine WC.region ?_
        refine WL.pv (pv_buildA (parts := []) arrT_25 zeroT_25 rfl rfl) rfl ?_
        refine WL.storeAll (k := 0) (vs := _) hS (by first | rw [sizeT_25, bs8_len, expandV_len] | (rw [sizeT_25]; simp)) rfl rfl rfl (by first | exact bs8_one | simp [Value.oneCell']) (by first | rw [bs8_len, expandV_len, List.length_replicate] | simp) ?_
        intro w hS
        try simp only [List.set] at hS
        refine WL.pv (pv_assign rfl) rfl ?_
        refine WL.nil ?_
        refine QN.thenW ?_
        refine WC.ret ?_
        refine QN.thenR ?_
        refine QN.retKT (k := 0) rfl rfl hS rfl (by first | rw [aggT_25, bs8_len, expandV_len] | (rw [aggT_25]; simp)) rfl ?_
        refine ⟨?_, hS.fr⟩
        rw [useV_arg hNm (by omega), ← bs8_zero]
      · skip
        obtain ⟨q, rfl⟩ : ∃ q : Nat, g = (q : Int) := ⟨g.toNat, by omega⟩
        refine WC.skip ?_
        refine QN.thenW ?_
        refine WC.seq ?_
        refine WC.region ?_
        refine WL.pv (pv_assign rfl) rfl ?_
        refine WL.nil ?_
        refine QN.thenW ?_
        refine WC.seq ?_
        replace hS := hS.addNil 5 1
        refine WC.region ?_
        refine WL.pv (pv_move rfl) rfl ?_
        refine WL.pv (pv_move rfl) rfl ?_
        refine WL.appendStr (k := 0) (N := 65536) hS slT_22 zlenT_5 Try.underlying9 rfl rfl rfl (by simp; omega) (by omega) (by simp [maxLen]) rfl ?_
        intro v26 w hFr26 hS
        try simp only [List.set] at hS
        rw [List.nil_append] at hS
        refine WL.pv (pv_assign rfl) rfl ?_
        refine WL.nil ?_
        refine QN.thenW ?_
        refine WC.seq ?_
        refine WC.region ?_
        refine WL.pv (pv_move rfl) rfl ?_
        refine WL.build1 (v := b8 0) hS slT_22 zeroT_5 rfl rfl rfl rfl ?_
        intro b28 w hb28 hS
        refine WL.append (k := 1) (N := 65536) hS slT_22 zlenT_5 (by decide) rfl rfl rfl ((hS.bk (k := 0) rfl).rs 0 1 1 1 (by omega) (by simp [maxLen]) (by simp)) (by simp [Value.oneCell']) (by simp [bs8_len]; omega) (by omega) (by simp [maxLen]) rfl ?_
        intro v29 w hFr29 hS
        try simp only [List.set] at hS
        rw [show List.take (1 * 1) (List.drop 0 [b8 0]) = bs8 [0] from rfl, ← bs8_app] at hS
        refine WL.pv (pv_assign rfl) rfl ?_
        refine WL.nil ?_
        refine QN.thenW ?_
        refine WC.seq ?_
        refine WC.region ?_
        refine WL.pv (pv_move rfl) rfl ?_
        refine WL.pv (pv_move rfl) rfl ?_
        refine WL.pv (pv_conv someT_3 Try.underlying86 rfl (cv_i_64 _)) rfl ?_
        refine WL.call (args := [.tmp 32, .const (.int .i64 4)]) cf_61 rfl rfl (beBytes_c (UInt64.ofNat q) 4 _ (by omega)) ?_
        rintro _ w ⟨vb, rfl, hF, hRb, hfb⟩
        refine ⟨_, rfl, ?_⟩
        replace hS := hS.no hF
        refine WL.append (k := 1) (N := 65536) hS slT_22 zlenT_5 (by decide) rfl rfl rfl hRb.rs bs8_one (by rw [bs8_len, bs8_len, beB_len]; simp; omega) (by omega) (by simp [maxLen]) rfl ?_
        intro v34 w hFr34 hS
        try simp only [List.set] at hS
        rw [← bs8_app, show s.data.toList ++ [0] ++ beB (UInt64.ofNat q) 4 = useInfo s (q : Int) from by rw [useInfo, Int.toNat_natCast]] at hS
        obtain ⟨A3, m3, c3, rfl, hm3, _, _⟩ := (hS.rw_ (k := 1) rfl).anyForm
        refine WL.pv (pv_assign rfl) rfl ?_
        refine WL.nil ?_
        refine QN.thenW ?_
        refine WC.seq ?_
        refine WC.region ?_
        refine WL.buildV (parts := [(0, .const (.int .u8 115)), (1, .const (.int .u8 99)), (2, .const (.int .u8 114)), (3, .const (.int .u8 105)), (4, .const (.int .u8 110)), (5, .const (.int .u8 105)), (6, .const (.int .u8 117)), (7, .const (.int .u8 109))]) (vs := [b8 115, b8 99, b8 114, b8 105, b8 110, b8 105, b8 117, b8 109]) hS slT_22 zeroT_5 (by simp) rfl rfl rfl (by simp [Value.cells]) rfl rfl ?_
        intro b36 w hb36 hS
        refine WL.convS (k := 0) hS Try.underlying22 Try.underlying5 rfl rfl rfl ?_
        intro w hS
        refine WL.rv (rv_load_all (k := 4) hS rfl rfl (by rw [aggT_25, bs8_len, hml])) rfl ?_
        refine WL.call (args := [.tmp 38]) cf_63 rfl rfl (refBytes_c master hml _) ?_
        rintro _ w ⟨vk, rfl, hF, hRk, hfk⟩
        refine ⟨_, rfl, ?_⟩
        replace hS := hS.no hF
        obtain ⟨A4, m4, c4, rfl, _, _, _⟩ := hRk.anyForm
        refine WL.call (args := [.tmp 37, .tmp 39]) cf_31 rfl rfl (refExtract_c _ _ 8 8 _ _ scrL master _ (Bk.rsAll (hS.bk (k := 0) rfl) rfl (by simp [maxLen])) hRk.rs (by simp [scrL]) (by omega)) ?_
        rintro _ w ⟨rfl, hF⟩
        refine ⟨_, rfl, ?_⟩
        replace hS := hS.no hF
        refine WL.pv (pv_move rfl) rfl ?_
        refine WL.call (args := [.tmp 40, .tmp 41, .const (.int .i64 32)]) cf_33 rfl rfl (refExpand_c _ _ _ 32 (extractV scrL master) (useInfo s (q : Int)) _ (extractV_len _ _) (hS.rw_ (k := 2) rfl).rs (by rw [useInfo]; simp [beB_len]; omega) (by omega)) ?_
        rintro _ wv ⟨v, rfl, hF, hv⟩
        refine ⟨_, rfl, ?_⟩
        replace hS := hS.no hF
        obtain ⟨Av, mv, cv, rfl, _, _, _, _⟩ := id hv
        have hmv := hv.len
        rw [bs8_len, expandV_len] at hmv
        refine WL.pv (pv_move rfl) rfl ?_
        refine WL.pv (pv_extL rfl rfl) rfl ?_
        refine WL.pv (pv_extL rfl rfl) rfl ?_
        refine WL.pv (pv_assign rfl) rfl ?_
        refine WL.pv (pv_assign rfl) rfl ?_
        refine WL.nil ?_
        refine QN.thenW ?_
        refine WC.seq ?_
        have hO := hS
        have hv0 := hv
        replace hS := ST.start wv No
        refine WC.region ?_
        refine WL.pv (pv_buildA (parts := []) arrT_25 zeroT_25 rfl rfl) rfl ?_
        refine WL.alloc hS zeroT_25 rfl ?_
        intro b11 w hb11 hS
        refine WL.storeAll (k := 0) (vs := List.replicate 32 (b8 0)) hS (by rw [sizeT_25]; simp) rfl rfl rfl (by simp [Value.oneCell']) (by simp) ?_
        intro w hS
        try simp only [List.set] at hS
        rw [bs8_zero, ← fillB_zero (fun j => (expandV (extractV scrL master) (useInfo s (q : Int)) 32).getD j 0) 32] at hS
        refine WL.nil ?_
        refine QN.thenW ?_
        refine WC.seq ?_
        refine WC.seq ?_
        refine WC.region ?_
        refine WL.pv (pv_assign rfl) rfl ?_
        refine WL.nil ?_
        refine QN.thenW ?_
        refine WC.block ?_
        refine WC.loop (α := Nat) (fun k => [(6, .pointer (some ⟨b6, 0, none⟩)), (9, .slice Av mv cv), (11, .pointer (some ⟨b11, 0, none⟩)), (12, .int .i64 (k : Int))]) (fun k w => k ≤ 32 ∧ ST wv No w [.blk b11 25 (bs8 (fillB (fun j => (expandV (extractV scrL master) (useInfo s (q : Int)) 32).getD j 0) 32 k))]) (fun k => 32 - k) (0) (Sub.cons rfl (Sub.cons rfl (Sub.cons rfl (Sub.cons rfl Sub.nil)))) ⟨by omega, hS⟩ ?_
        rintro k w N hN hR
        obtain ⟨hk, hS⟩ := hR
        have hv := hv0.no hS.fr
        refine WC.seq ?_
        refine WC.seq ?_
        refine WC.region ?_
        refine WL.pv (pv_move rfl) rfl ?_
        refine WL.pv (pv_lss rfl rfl) rfl ?_
        refine WL.nil ?_
        refine QN.thenW ?_
        refine WC.condD rfl (fun hc47 => ?_) (fun hc47 => ?_)
        · skip
          have hk32 : k < 32 := by omega
          obtain ⟨bv, ov, rfl, _, _, _, hcv⟩ := hv.at_ (by rw [bs8_len, expandV_len]; omega)
          refine WC.skip ?_
          refine QN.thenW ?_
          refine WC.seq ?_
          refine WC.block ?_
          refine WC.region ?_
          refine WL.pv (pv_move rfl) rfl ?_
          refine WL.pv (pv_move rfl) rfl ?_
          refine WL.pv (pv_move rfl) rfl ?_
          refine WL.pv (pv_indexAddrS1 (j := k) slT_22 rfl rfl (by omega) (by omega)) rfl ?_
          refine WL.rv (rv_load oneT_5 rfl (hcv k _ (bs8_at (by rw [expandV_len]; omega)))) rfl ?_
          refine WL.pv (pv_indexAddrA1Z (j := k) arrT_25 rfl rfl (by omega) (by omega)) rfl ?_
          refine WL.store (k := 0) hS sizeT_5 rfl rfl rfl rfl (by rw [bs8_len, fillB_len]; omega) ?_
          intro w hS
          try simp only [List.set] at hS
          rw [bs8_set, show (expandV (extractV scrL master) (useInfo s (q : Int)) 32)[k]'(by rw [expandV_len]; omega) = (fun j => (expandV (extractV scrL master) (useInfo s (q : Int)) 32).getD j 0) k from by simp [expandV_len, hk32], fillB_set] at hS
          refine WL.nil ?_
          refine QN.blockN ?_
          refine QN.thenW ?_
          refine WC.region ?_
          refine WL.pv (pv_move rfl) rfl ?_
          refine WL.pv (pv_add rfl rfl (by omega)) rfl ?_
          refine WL.pv (pv_assign rfl) rfl ?_
          refine WL.nil ?_
          refine QN.roundE ?_
          refine ⟨(k + 1), (Sub.cons rfl (Sub.cons rfl (Sub.cons rfl (Sub.cons rfl Sub.nil)))), ⟨by omega, hS⟩, ?_⟩
          first | omega | (dsimp only; omega)
        · skip
          obtain rfl : k = 32 := by omega
          rw [fillB_of _ (expandV_len _ _ _)] at hS
          refine WC.exit ?_
          refine QN.thenX ?_
          refine QN.thenX ?_
          refine QN.blockX ?_
          refine QN.thenW ?_
          refine WC.seq ?_
          replace hS := hO.join hS
          simp only [List.cons_append, List.nil_append] at hS
          refine WC.region ?_
          refine WL.rv (rv_load_all (k := 0) hS rfl rfl (by rw [aggT_25, bs8_len, expandV_len])) rfl ?_
          refine WL.storeAll (k := 4) (vs := _) hS (by first | rw [sizeT_25, bs8_len, expandV_len] | (rw [sizeT_25]; simp)) rfl rfl rfl (by first | exact bs8_one | simp [Value.oneCell']) (by first | rw [bs8_len, expandV_len, List.length_replicate] | simp) ?_
          intro w hS
          try simp only [List.set] at hS
          refine WL.pv (pv_assign rfl) rfl ?_
          refine WL.nil ?_
          refine QN.thenW ?_
          refine WC.ret ?_
          refine QN.retKT (k := 4) rfl rfl hS rfl (by first | rw [aggT_25, bs8_len, expandV_len] | (rw [aggT_25]; simp)) rfl ?_
          refine ⟨?_, hS.fr⟩
          rw [useV_yes hNm (by omega)]

end Go.Proofs.Ytjcebkhhgdgohaa
