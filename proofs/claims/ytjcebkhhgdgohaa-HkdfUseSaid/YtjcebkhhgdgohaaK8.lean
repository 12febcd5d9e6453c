/- What a few functions of the program compute, part K8. -/
import Derived.Test.YtjcebkhhgdgohaaK7
import Derived.Test.YtjcebkhhgdgohaaB2
namespace Go.Proofs.Ytjcebkhhgdgohaa
open Go Go.RowKit Go.Eng
theorem cf_65 : callable Try.prog 65 = true := by kernel_rfl
theorem cf_66 : callable Try.prog 66 = true := by kernel_rfl
theorem cf_69 : callable Try.prog 69 = true := by kernel_rfl
theorem zeroT_103 : zeroT Try.prog 103 = some ([.slice none 0 0]) := by kernel_rfl

def scrL : List UInt8 := [115, 99, 114, 105, 110, 105, 117, 109]
/-- The key of a use, and the error. -/
def useInfo (s : ByteArray) (g : Int) : List UInt8 := s.data.toList ++ [0] ++ beB (UInt64.ofNat g.toNat) 4
def useV (master : List UInt8) (s : ByteArray) (g : Int) : List UInt8 × Int :=
  if Nam s then if 0 ≤ g ∧ g ≤ 4294967295 then (expandV (extractV scrL master) (useInfo s g) 32, 0) else (List.replicate 32 0, 14) else (List.replicate 32 0, 5)
theorem useV_no {master : List UInt8} {s : ByteArray} {g : Int} (h : ¬ Nam s) : useV master s g = (List.replicate 32 0, 5) := by rw [useV, if_neg h]
theorem useV_arg {master : List UInt8} {s : ByteArray} {g : Int} (h : Nam s) (hg : ¬ (0 ≤ g ∧ g ≤ 4294967295)) : useV master s g = (List.replicate 32 0, 14) := by rw [useV, if_pos h, if_neg hg]
theorem useV_yes {master : List UInt8} {s : ByteArray} {g : Int} (h : Nam s) (hg : 0 ≤ g ∧ g ≤ 4294967295) : useV master s g = (expandV (extractV scrL master) (useInfo s g) 32, 0) := by rw [useV, if_pos h, if_pos hg]
theorem useV_len (master : List UInt8) (s : ByteArray) (g : Int) : (useV master s g).1.length = 32 := by
  unfold useV
  split
  · split
    · exact expandV_len _ _ _
    · simp
  · simp
def UsePost (master : List UInt8) (s : ByteArray) (g : Int) (w0 : World) (e : Ending) (w : World) : Prop := e = .returned (.tuple #[.agg (bs8 (useV master s g).1).toArray, .int .i64 (useV master s g).2]) ∧ Fr No w0 w
theorem bs8_zero (n : Nat) : List.replicate n (b8 0) = bs8 (List.replicate n 0) := by simp [bs8]
theorem str_len (s : ByteArray) : s.data.toList.length = s.size := rfl
theorem wid32 (q : Nat) (h : q ≤ 4294967295) : widN (UInt64.ofNat q).toNat ≤ 4 := widN_le (by omega) (by rw [UInt64.toNat_ofNat']; simp; omega)

set_option maxHeartbeats 1000000 in
set_option maxRecDepth 100000 in
theorem use_c (master : List UInt8) (s : ByteArray) (g : Int) (w0 : World) (hml : master.length = 32) (hs : s.size ≤ 1000) (hg : -9223372036854775808 ≤ g ∧ g ≤ 9223372036854775807) : Calls Try.prog 46 #[.agg (bs8 master).toArray, .string s, .int .i64 g] w0 (UsePost master s g w0) := by
  refine calls_of_WC (args := [.agg (bs8 master).toArray, .string s, .int .i64 g]) Try.func46 rfl Try.ntmps46 rfl ?_
  show WC _ _ _ _ [(0, .agg (bs8 master).toArray), (1, .string s), (2, .int .i64 g)] _
  have hS := ST.start w0 No
  refine WC.seq ?_
  refine WC.region ?_
  refine WL.box (vs := bs8 master) hS rfl rfl rfl ?_
  intro b3 w hb3 hS
  refine WL.alloc hS zeroT_25 rfl ?_
  intro b6 w hb6 hS
  refine WL.pv (pv_assign rfl) rfl ?_
  refine WL.nil ?_
  refine QN.thenW ?_
  refine WC.seq ?_
  refine WC.block ?_
  refine WC.seq ?_
  refine WC.region ?_
  refine WL.pv (pv_move rfl) rfl ?_
  refine WL.call (args := [.tmp 13]) cf_69 rfl rfl (named_c s _ hs) ?_
  rintro _ w ⟨t, rfl, ht, hF⟩
  refine ⟨_, rfl, ?_⟩
  replace hS := hS.no hF
  refine WL.pv (pv_not rfl) rfl ?_
  refine WL.pv (pv_assign rfl) rfl ?_
  refine WL.nil ?_
  refine QN.thenW ?_
  refine WC.cond rfl (fun hc12 => ?_) (fun hc12 => ?_)
  · skip
    have hNm : ¬ Nam s := fun h => by have := ht.2 h; subst this; simp at hc12
    refine WC.seq ?_
    refine WC.region ?_
    refine WL.pv (pv_buildA (parts := []) arrT_25 zeroT_25 rfl rfl) rfl ?_
    refine WL.storeAll (k := 0) (vs := _) hS (by first | rw [sizeT_25, bs8_len, expandV_len] | (rw [sizeT_25]; simp)) rfl rfl rfl (by first | exact bs8_one | simp [Value.oneCell']) (by first | rw [bs8_len, expandV_len, List.length_replicate] | simp) ?_
    intro w hS
    try simp only [List.set] at hS
    refine WL.pv (pv_assign rfl) rfl ?_
    refine WL.nil ?_
    refine QN.thenW ?_
    refine WC.ret ?_
    refine QN.blockR ?_
    refine QN.thenR ?_
    refine QN.retKT (k := 0) rfl rfl hS rfl (by first | rw [aggT_25, bs8_len, expandV_len] | (rw [aggT_25]; simp)) rfl ?_
    refine ⟨?_, hS.fr⟩
    rw [useV_no hNm, ← bs8_zero]
  · skip
    have hNm : Nam s := ht.1 (by simpa using hc12)
    refine WC.seq ?_
    by_cases hneg : g < 0
    · skip
      refine WC.region ?_
      refine WL.pv (pv_move rfl) rfl ?_
      refine WL.pv (pv_lss rfl rfl) rfl ?_
      refine WL.pv (pv_move rfl) rfl ?_
      refine WL.guardF rfl rfl rfl (lkT rfl (by omega)) rfl rfl ?_
      refine WL.guardF rfl rfl rfl (lkT rfl (by omega)) rfl rfl ?_
      refine WL.pv (pv_pick1 (lkT rfl (by omega)) rfl) rfl ?_
      refine WL.pv (pv_assign rfl) rfl ?_
      refine WL.nil ?_
      refine QN.thenW ?_
      refine WC.condT rfl rfl ?_
      refine WC.seq ?_
      refine WC.region ?_
      refine WL.pv (pv_buildA (parts := []) arrT_25 zeroT_25 rfl rfl) rfl ?_
      refine WL.storeAll (k := 0) (vs := _) hS (by first | rw [sizeT_25, bs8_len, expandV_len] | (rw [sizeT_25]; simp)) rfl rfl rfl (by first | exact bs8_one | simp [Value.oneCell']) (by first | rw [bs8_len, expandV_len, List.length_replicate] | simp) ?_
      intro w hS
      try simp only [List.set] at hS
      refine WL.pv (pv_assign rfl) rfl ?_
      refine WL.nil ?_
      refine QN.thenW ?_
      refine WC.ret ?_
      refine QN.blockR ?_
      refine QN.thenR ?_
      refine QN.retKT (k := 0) rfl rfl hS rfl (by first | rw [aggT_25, bs8_len, expandV_len] | (rw [aggT_25]; simp)) rfl ?_
      refine ⟨?_, hS.fr⟩
      rw [useV_arg hNm (by omega), ← bs8_zero]
    · skip
      refine WC.region ?_
      refine WL.pv (pv_move rfl) rfl ?_
      refine WL.pv (pv_lss rfl rfl) rfl ?_
      refine WL.pv (pv_move rfl) rfl ?_
      refine WL.guardT rfl rfl rfl (lkF rfl (by omega)) ?_
      refine WL.pv (pv_move rfl) rfl ?_
      refine WL.guardT rfl rfl rfl (lkF rfl (by omega)) ?_
      refine WL.pv (pv_gtr rfl rfl) rfl ?_
      refine WL.pv (pv_pick0 (lkF rfl (by omega)) rfl) rfl ?_
      refine WL.pv (pv_assign rfl) rfl ?_
      refine WL.nil ?_
      refine QN.thenW ?_
      refine WC.condD rfl (fun hc17 => ?_) (fun hc17 => ?_)
      · skip
        refine WC.seq ?_
        refine WC.region ?_
        refine WL.pv (pv_buildA (parts := []) arrT_25 zeroT_25 rfl rfl) rfl ?_
        refine WL.storeAll (k := 0) (vs := _) hS (by first | rw [sizeT_25, bs8_len, expandV_len] | (rw [sizeT_25]; simp)) rfl rfl rfl (by first | exact bs8_one | simp [Value.oneCell']) (by first | rw [bs8_len, expandV_len, List.length_replicate] | simp) ?_
        intro w hS
        try simp only [List.set] at hS
        refine WL.pv (pv_assign rfl) rfl ?_
        refine WL.nil ?_
        refine QN.thenW ?_
        refine WC.ret ?_
        refine QN.blockR ?_
        refine QN.thenR ?_
        refine QN.retKT (k := 0) rfl rfl hS rfl (by first | rw [aggT_25, bs8_len, expandV_len] | (rw [aggT_25]; simp)) rfl ?_
        refine ⟨?_, hS.fr⟩
        rw [useV_arg hNm (by omega), ← bs8_zero]
      · skip
        obtain ⟨q, rfl⟩ : ∃ q : Nat, g = (q : Int) := ⟨g.toNat, by omega⟩
        refine WC.skip ?_
        refine QN.blockN ?_
        refine QN.thenW ?_
        refine WC.seq ?_
        refine WC.region ?_
        refine WL.alloc hS zeroT_103 rfl ?_
        intro bw w hbw hS
        replace hS := hS.addNil 5 1
        refine WL.nil ?_
        refine QN.thenW ?_
        refine WC.seq ?_
        refine WC.region ?_
        refine WL.pv (pv_move rfl) rfl ?_
        refine WL.pv (pv_conv someT_3 Try.underlying86 rfl (cv_i_64 _)) rfl ?_
        refine WL.call (args := [.tmp 8, .tmp 26, .const (.int .i64 4)]) cf_65 rfl rfl (num_c bw (.slice none 0 0) [] (UInt64.ofNat q) 4 _ (hS.bk (k := 1) rfl) (hS.rw_ (k := 0) rfl) (by omega) (by omega) (wid32 q (by omega)) (by simp)) ?_
        rintro _ w ⟨rfl, hF, v1, hB, hR1, ho⟩
        refine ⟨_, rfl, ?_⟩
        replace hS := hS.upd2 (i := 1) (j := 0) rfl rfl hF hB hR1 ho
        simp only [List.set] at hS
        rw [List.nil_append] at hS
        refine WL.nil ?_
        refine QN.thenW ?_
        refine WC.seq ?_
        refine WC.region ?_
        refine WL.pv (pv_move rfl) rfl ?_
        refine WL.convStr hS Try.underlying9 Try.underlying22 Try.underlying5 rfl (by simp only [maxLen]; omega) rfl ?_
        intro r29 w hr29 hS
        refine WL.build1 (v := b8 0) hS slT_22 zeroT_5 rfl rfl rfl rfl ?_
        intro b30 w hb30 hS
        refine WL.append (k := 1) (N := 65536) hS slT_22 zlenT_5 (by decide) rfl rfl rfl ((hS.bk (k := 0) rfl).rs 0 1 1 1 (by omega) (by simp [maxLen]) (by simp)) (by simp [Value.oneCell']) (by simp [bs8_len]; omega) (by omega) (by simp [maxLen]) rfl ?_
        intro v31 w hFr31 hS
        try simp only [List.set] at hS
        rw [show List.take (1 * 1) (List.drop 0 [b8 0]) = bs8 [0] from rfl, ← bs8_app] at hS
        refine WL.call (args := [.tmp 8]) cf_66 rfl rfl (out_c bw v1 _ _ (hS.bk (k := 3) rfl) (hS.rw_ (k := 2) rfl) (by simp [beB_len])) ?_
        rintro _ w ⟨vb, rfl, hF, hRb, hfb⟩
        refine ⟨_, rfl, ?_⟩
        replace hS := hS.add (e := .row vb 5 1 _) hF hRb hfb
        obtain ⟨gb, mb, cb, rfl, _, _, _⟩ := hRb.form8 (by rw [beB_len]; omega)
        refine WL.append (k := 2) (N := 65536) hS slT_22 zlenT_5 (by decide) rfl rfl rfl (hS.rw_ (k := 0) rfl).rs bs8_one (by rw [bs8_len, bs8_len, beB_len]; simp; omega) (by omega) (by simp [maxLen]) rfl ?_
        intro v33 w hFr33 hS
        try simp only [List.set] at hS
        rw [← bs8_app, show s.data.toList ++ [0] ++ beB (UInt64.ofNat q) 4 = useInfo s (q : Int) from by rw [useInfo, Int.toNat_natCast]] at hS
        obtain ⟨A3, m3, c3, rfl, hm3, _, _⟩ := (hS.rw_ (k := 2) rfl).anyForm
        refine WL.pv (pv_assign rfl) rfl ?_
        refine WL.nil ?_
        refine QN.thenW ?_
        refine WC.seq ?_
        refine WC.region ?_
        refine WL.buildV (parts := [(0, .const (.int .u8 115)), (1, .const (.int .u8 99)), (2, .const (.int .u8 114)), (3, .const (.int .u8 105)), (4, .const (.int .u8 110)), (5, .const (.int .u8 105)), (6, .const (.int .u8 117)), (7, .const (.int .u8 109))]) (vs := [b8 115, b8 99, b8 114, b8 105, b8 110, b8 105, b8 117, b8 109]) hS slT_22 zeroT_5 (by simp) rfl rfl rfl (by simp [Value.cells]) rfl rfl ?_
        intro b35 w hb35 hS
        refine WL.convS (k := 0) hS Try.underlying22 Try.underlying5 rfl rfl rfl ?_
        intro w hS
        refine WL.pv (pv_sliceW arrT_25 rfl) rfl ?_
        refine WL.call (args := [.tmp 36, .tmp 37]) cf_30 rfl rfl (extract_c _ _ 8 8 32 32 scrL master _ (Bk.rsAll (hS.bk (k := 0) rfl) rfl (by simp [maxLen])) (Bk.rsAll (hS.bk (k := 7) rfl) hml (by simp [maxLen]))) ?_
        rintro _ w ⟨rfl, hF⟩
        refine ⟨_, rfl, ?_⟩
        replace hS := hS.no hF
        refine WL.pv (pv_move rfl) rfl ?_
        refine WL.call (args := [.tmp 38, .tmp 39, .const (.int .i64 32)]) cf_32 rfl rfl (expand_c _ _ _ 32 (extractV scrL master) (useInfo s (q : Int)) _ (extractV_len _ _) (hS.rw_ (k := 3) rfl).rs (by rw [useInfo]; simp [beB_len]; omega) (by omega)) ?_
        rintro _ w ⟨v, rfl, hF, hv⟩
        refine ⟨_, rfl, ?_⟩
        replace hS := hS.no hF
        obtain ⟨Av, mv, cv, rfl, _, _, _, _⟩ := id hv
        have hmv := hv.len
        rw [bs8_len, expandV_len] at hmv
        obtain ⟨bv, ov, rfl, _, _, _, hcv⟩ := hv.at_ (by rw [bs8_len, expandV_len]; omega)
        refine WL.pv (pv_move rfl) rfl ?_
        refine WL.pv (pv_extL rfl rfl) rfl ?_
        refine WL.pv (pv_extL rfl rfl) rfl ?_
        refine WL.pv (pv_assign rfl) rfl ?_
        refine WL.pv (pv_assign rfl) rfl ?_
        refine WL.nil ?_
        refine QN.thenW ?_
        refine WC.seq ?_
        refine WC.region ?_
        refine WL.pv (pv_move rfl) rfl ?_
        refine WL.pv (pv_s2ap arrT_25 rfl (by omega)) rfl ?_
        refine WL.rv (rv_loadA (by rw [aggT_25, bs8_len, expandV_len]) rfl hcv) rfl ?_
        refine WL.storeAll (k := 6) (vs := _) hS (by first | rw [sizeT_25, bs8_len, expandV_len] | (rw [sizeT_25]; simp)) rfl rfl rfl (by first | exact bs8_one | simp [Value.oneCell']) (by first | rw [bs8_len, expandV_len, List.length_replicate] | simp) ?_
        intro w hS
        try simp only [List.set] at hS
        refine WL.pv (pv_assign rfl) rfl ?_
        refine WL.nil ?_
        refine QN.thenW ?_
        refine WC.ret ?_
        refine QN.retKT (k := 6) rfl rfl hS rfl (by first | rw [aggT_25, bs8_len, expandV_len] | (rw [aggT_25]; simp)) rfl ?_
        refine ⟨?_, hS.fr⟩
        rw [useV_yes hNm (by omega)]

end Go.Proofs.Ytjcebkhhgdgohaa
