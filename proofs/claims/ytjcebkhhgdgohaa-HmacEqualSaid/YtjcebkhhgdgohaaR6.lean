/- What a few functions of the program compute, part R6. -/
import Derived.Test.YtjcebkhhgdgohaaR5
import Derived.Test.YtjcebkhhgdgohaaW6
namespace Go.Proofs.Ytjcebkhhgdgohaa
open Go Go.RowKit Go.Eng
theorem cf_21 : callable Try.prog 21 = true := by kernel_rfl
theorem cf_57 : callable Try.prog 57 = true := by kernel_rfl
theorem cf_59 : callable Try.prog 59 = true := by kernel_rfl
theorem cf_60 : callable Try.prog 60 = true := by kernel_rfl

def beginL (k : Nat) : List UInt32 := (List.range k).map fun i => hexW beginsS i
theorem beginL_succ (k : Nat) : beginL (k + 1) = beginL k ++ [hexW beginsS k] := by simp [beginL, List.range_succ]
theorem beginL_len (k : Nat) : (beginL k).length = k := by simp [beginL]
def hashP (T : List UInt8) : Nat → List UInt32
  | 0 => beginL 8
  | j + 1 => behL (hashP T j) ((T.drop (64 * j)).take 64)
theorem hashP_len (T : List UInt8) (j : Nat) : (hashP T j).length = 8 := by
  cases j with
  | zero => exact beginL_len 8
  | succ j => simp [hashP, behL, outR_len]
def keyF (s : List UInt32) (q : Nat) : UInt8 := (beB (s.getD (q / 4) 0).toUInt64 4).getD (q % 4) 0
theorem keyF_at (s : List UInt32) (i : Nat) {k : Nat} (hk : k < 4) : keyF s (4 * i + k) = (beB (s.getD i 0).toUInt64 4)[k]'(by rw [beB_len]; omega) := by
  rw [keyF, show (4 * i + k) / 4 = i from by omega, show (4 * i + k) % 4 = k from by omega]
  have h : k < (beB (s.getD i 0).toUInt64 4).length := by rw [beB_len]; omega
  rw [List.getD, List.getElem?_eq_getElem h]; rfl
def outS (s : List UInt32) : List UInt8 := (List.range 32).map (keyF s)
/-- The digest of a text, by the document. -/
def refV (bl : List UInt8) : List UInt8 := outS (hashP (filL bl) ((filL bl).length / 64))
theorem refV_len (bl : List UInt8) : (refV bl).length = 32 := by simp [refV, outS]
theorem filL_len (bl : List UInt8) : (filL bl).length = 64 * ((filL bl).length / 64) := by
  simp only [filL, padN, List.length_append, List.length_cons, List.length_nil, List.length_replicate, beB_len]; omega

set_option maxHeartbeats 1000000 in
set_option maxRecDepth 100000 in
theorem refSum_c (A : Option Addr) (m c : Nat) (bl : List UInt8) (w0 : World) (hb : Rs w0 (.slice A m c) 1 (bs8 bl)) (hbl : bl.length ≤ 10000) : Calls Try.prog 21 #[.slice A m c] w0 (KeyPost (refV bl) w0) := by
  refine calls_of_WC (args := [.slice A m c]) Try.func21 rfl Try.ntmps21 rfl ?_
  show WC _ _ _ _ [(0, .slice A m c)] _
  have hS := ST.start w0 No
  refine WC.seq ?_
  refine WC.region ?_
  refine WL.alloc hS zeroT_25 rfl ?_
  intro b2 w hb2 hS
  refine WL.nil ?_
  refine QN.thenW ?_
  refine WC.seq ?_
  refine WC.region ?_
  refine WL.pv (pv_move rfl) rfl ?_
  refine WL.call (args := [.tmp 10]) cf_57 rfl rfl (filled_c A m c bl _ (hb.no hS.fr) hbl) ?_
  rintro _ w ⟨tv, rfl, hF, hR, hfr⟩
  refine ⟨_, rfl, ?_⟩
  replace hS := (hS.add (e := .row tv 5 1 (bs8 (filL bl))) hF hR hfr).addNil 91 1
  have hTl := filL_len bl
  have hTs : (filL bl).length ≤ 20000 := by simp only [filL, padN, List.length_append, List.length_cons, List.length_nil, List.length_replicate, beB_len]; omega
  generalize hTT : filL bl = T at hS hTl hTs
  generalize hnb : T.length / 64 = nb at hTl
  clear hR
  refine WL.pv (pv_assign rfl) rfl ?_
  refine WL.nil ?_
  refine QN.thenW ?_
  refine WC.seq ?_
  refine WC.region ?_
  refine WL.pv (pv_assign rfl) rfl ?_
  refine WL.nil ?_
  refine QN.thenW ?_
  refine WC.seq ?_
  refine WC.seq ?_
  refine WC.region ?_
  refine WL.pv (pv_assign rfl) rfl ?_
  refine WL.nil ?_
  refine QN.thenW ?_
  refine WC.block ?_
  refine WC.loop (α := Nat × Value) (fun s => [(2, .pointer (some ⟨b2, 0, none⟩)), (3, tv), (4, s.2), (5, .int .i64 (s.1 : Int))]) (fun s w => s.1 ≤ 8 ∧ ST w0 No w [.row s.2 91 1 (ws (beginL s.1)), .row tv 5 1 (bs8 T), .blk b2 25 (List.replicate 32 (b8 0))]) (fun s => 8 - s.1) ((0, .slice none 0 0)) (Sub.cons rfl (Sub.cons rfl (Sub.cons rfl (Sub.cons rfl Sub.nil)))) ⟨by show 0 ≤ 8; omega, hS⟩ ?_
  rintro ⟨k, v⟩ w N hN hR
  change N = 8 - k at hN
  change k ≤ 8 ∧ ST w0 No w [.row v 91 1 (ws (beginL k)), .row tv 5 1 (bs8 T), .blk b2 25 (List.replicate 32 (b8 0))] at hR
  show WC _ _ _ _ [(2, .pointer (some ⟨b2, 0, none⟩)), (3, tv), (4, v), (5, .int .i64 (k : Int))] _
  obtain ⟨hk, hS⟩ := hR
  refine WC.seq ?_
  refine WC.seq ?_
  refine WC.region ?_
  refine WL.pv (pv_move rfl) rfl ?_
  refine WL.pv (pv_lss rfl rfl) rfl ?_
  refine WL.nil ?_
  refine QN.thenW ?_
  refine WC.condD rfl (fun hc13 => ?_) (fun hc13 => ?_)
  · skip
    have hk8 : k < 8 := by omega
    refine WC.skip ?_
    refine QN.thenW ?_
    refine WC.seq ?_
    refine WC.block ?_
    refine WC.region ?_
    refine WL.pv (pv_move rfl) rfl ?_
    refine WL.call (args := []) cf_59 rfl rfl (begins_c _) ?_
    rintro _ w ⟨rfl, rfl⟩
    refine ⟨_, rfl, ?_⟩
    refine WL.pv (pv_move rfl) rfl ?_
    refine WL.call (args := [.tmp 17, .tmp 18]) cf_58 rfl rfl (word_c beginsS k _ (by rw [beginsS_size]; omega) (by rw [beginsS_size]; omega)) ?_
    rintro _ w ⟨rfl, hF⟩
    refine ⟨_, rfl, ?_⟩
    replace hS := hS.no hF
    refine WL.build1 hS slT_90 zeroT_91 rfl rfl rfl rfl ?_
    intro b20 w hb20 hS
    refine WL.append (k := 1) (N := 65536) hS slT_90 zlenT_91 (by decide) rfl rfl rfl ((hS.bk (k := 0) rfl).rs 0 1 1 1 (by omega) (by simp [maxLen]) (by simp)) (by simp [Value.oneCell']) (by simp [ws_len, beginL_len]; omega) (by omega) (by simp [maxLen]) rfl ?_
    intro v1 w hFr21 hS
    try simp only [List.set] at hS
    replace hS := hS.erase 0
    simp only [List.eraseIdx_zero, List.tail_cons] at hS
    rw [show List.take (1 * 1) (List.drop 0 [w32 (hexW beginsS k)]) = [w32 (hexW beginsS k)] from rfl, ws_snoc, ← beginL_succ] at hS
    refine WL.pv (pv_assign rfl) rfl ?_
    refine WL.nil ?_
    refine QN.blockN ?_
    refine QN.thenW ?_
    refine WC.region ?_
    refine WL.pv (pv_move rfl) rfl ?_
    refine WL.pv (pv_add rfl rfl (by omega)) rfl ?_
    refine WL.pv (pv_assign rfl) rfl ?_
    refine WL.nil ?_
    refine QN.roundE ?_
    refine ⟨((k + 1, v1)), (Sub.cons rfl (Sub.cons rfl (Sub.cons rfl (Sub.cons rfl Sub.nil)))), ⟨by show k + 1 ≤ 8; omega, hS⟩, ?_⟩
    first | omega | (dsimp only; omega)
  · skip
    obtain rfl : k = 8 := by omega
    have htv : Rs w tv 1 (bs8 T) := (hS.rw_ (k := 1) rfl).rs
    replace hS := hS.erase 1
    simp only [List.eraseIdx_zero, List.eraseIdx_cons_succ, List.tail_cons] at hS
    refine WC.exit ?_
    refine QN.thenX ?_
    refine QN.thenX ?_
    refine QN.blockX ?_
    refine QN.thenW ?_
    refine WC.seq ?_
    refine WC.block ?_
    refine WC.loop (α := Nat × Value × Value) (fun s => [(2, .pointer (some ⟨b2, 0, none⟩)), (3, s.2.2), (4, s.2.1)]) (fun s w => s.1 ≤ nb ∧ Rs w s.2.2 1 (bs8 (T.drop (64 * s.1))) ∧ ST w0 No w [.row s.2.1 91 1 (ws (hashP T s.1)), .blk b2 25 (List.replicate 32 (b8 0))]) (fun s => nb - s.1) ((0, v, tv)) (Sub.cons rfl (Sub.cons rfl (Sub.cons rfl Sub.nil))) ⟨by show 0 ≤ nb; omega, htv, hS⟩ ?_
    rintro ⟨j, sv, tv⟩ w N hN hR
    change N = nb - j at hN
    change j ≤ nb ∧ Rs w tv 1 (bs8 (T.drop (64 * j))) ∧ ST w0 No w [.row sv 91 1 (ws (hashP T j)), .blk b2 25 (List.replicate 32 (b8 0))] at hR
    show WC _ _ _ _ [(2, .pointer (some ⟨b2, 0, none⟩)), (3, tv), (4, sv)] _
    obtain ⟨hj, htv, hS⟩ := hR
    have hsl := hashP_len T j
    obtain ⟨gs, ms, cs, rfl, hms, hcs, hcs2⟩ := (hS.rw_ (k := 0) rfl).formW (by omega)
    rw [hsl] at hms
    subst hms
    obtain ⟨At, mt, ct, rfl, _, _, _, _⟩ := id htv
    obtain ⟨hmt, hct, hct2⟩ := htv.len
    rw [bs8_len, List.length_drop, Nat.mul_one] at hmt
    have hmx : mt ≤ 9223372036854775807 := by omega
    refine WC.seq ?_
    refine WC.seq ?_
    refine WC.region ?_
    refine WL.pv (pv_move rfl) rfl ?_
    refine WL.pv (pv_len slS_22 rfl) rfl ?_
    refine WL.pv (pv_gtr rfl rfl) rfl ?_
    refine WL.nil ?_
    refine QN.thenW ?_
    refine WC.condD rfl (fun hc24 => ?_) (fun hc24 => ?_)
    · skip
      have hjn : j < nb := by omega
      have hb64 : ((T.drop (64 * j)).take 64).length = 64 := by simp; omega
      refine WC.skip ?_
      refine QN.thenW ?_
      refine WC.block ?_
      refine WC.seq ?_
      refine WC.region ?_
      refine WL.pv (pv_move rfl) rfl ?_
      refine WL.pv (pv_move rfl) rfl ?_
      refine WL.pv (pv_sliceH (b := 64) slT_22 rfl rfl rfl (by omega)) rfl ?_
      refine WL.call (args := [.tmp 25, .tmp 27]) cf_60 rfl rfl (behind_c gs 0 cs At ct (hashP T j) ((T.drop (64 * j)).take 64) _ (hS.rw_ (k := 0) rfl).rs hsl (by have := htv.cutH (b := 64) (by omega); rw [bs8, List.map_take]; exact this) hb64) ?_
      rintro _ w ⟨sv2, rfl, hF, hR2, hfr⟩
      refine ⟨_, rfl, ?_⟩
      replace hS := (hS.add (e := .row sv2 91 1 (ws (hashP T (j + 1)))) hF hR2 hfr).erase 1
      simp only [List.eraseIdx_zero, List.eraseIdx_cons_succ, List.tail_cons] at hS
      have htv2 := (htv.no hF).cut (a := 64) (b := mt) (by omega) (by omega)
      rw [show List.take ((mt - 64) * 1) (List.drop (64 * 1) (bs8 (T.drop (64 * j)))) = bs8 (T.drop (64 * (j + 1))) from by
        rw [List.take_of_length_le (by simp [bs8_len]; omega), bs8, ← List.map_drop, List.drop_drop]; rfl] at htv2
      refine WL.pv (pv_assign rfl) rfl ?_
      refine WL.nil ?_
      refine QN.thenW ?_
      refine WC.region ?_
      refine WL.pv (pv_move rfl) rfl ?_
      refine WL.pv (pv_sliceLH (a := 64) slT_22 rfl rfl rfl rfl rfl (by omega) (by omega)) rfl ?_
      refine WL.pv (pv_assign rfl) rfl ?_
      refine WL.nil ?_
      refine QN.blockN ?_
      refine QN.roundE ?_
      refine ⟨((j + 1, sv2, _)), (Sub.cons rfl (Sub.cons rfl (Sub.cons rfl Sub.nil))), ⟨by show j + 1 ≤ nb; omega, htv2, hS⟩, ?_⟩
      first | omega | (dsimp only; omega)
    · skip
      obtain rfl : j = nb := by omega
      refine WC.exit ?_
      refine QN.thenX ?_
      refine QN.thenX ?_
      refine QN.blockX ?_
      refine QN.thenW ?_
      refine WC.seq ?_
      refine WC.region ?_
      refine WL.pv (pv_buildA (parts := []) (cells := List.replicate 32 (b8 0)) arrT_25 zeroT_25 rfl rfl) rfl ?_
      refine WL.alloc hS zeroT_25 rfl ?_
      intro b6 w hb6 hS
      refine WL.storeAll (k := 0) (vs := List.replicate 32 (b8 0)) hS (by rw [sizeT_25]; simp) rfl rfl rfl (by simp [Value.oneCell']) (by simp) ?_
      intro w hS
      try simp only [List.set] at hS
      rw [bs8_rep, ← fillB_zero (keyF (hashP T j)) 32] at hS
      refine WL.nil ?_
      refine QN.thenW ?_
      refine WC.seq ?_
      refine WC.seq ?_
      refine WC.region ?_
      refine WL.pv (pv_assign rfl) rfl ?_
      refine WL.nil ?_
      refine QN.thenW ?_
      refine WC.block ?_
      refine WC.loop (α := Nat) (fun i => [(2, .pointer (some ⟨b2, 0, none⟩)), (4, .slice (some ⟨gs, 0, none⟩) 8 cs), (6, .pointer (some ⟨b6, 0, none⟩)), (7, .int .i64 (i : Int))]) (fun i w => i ≤ 8 ∧ ST w0 No w [.blk b6 25 (bs8 (fillB (keyF (hashP T j)) 32 (4 * i))), .row (.slice (some ⟨gs, 0, none⟩) 8 cs) 91 1 (ws (hashP T j)), .blk b2 25 (bs8 (fillB (keyF (hashP T j)) 32 0))]) (fun i => 8 - i) (0) (Sub.cons rfl (Sub.cons rfl (Sub.cons rfl (Sub.cons rfl Sub.nil)))) ⟨by omega, hS⟩ ?_
      rintro i w N hN hR
      obtain ⟨hi, hS⟩ := hR
      refine WC.seq ?_
      refine WC.seq ?_
      refine WC.region ?_
      refine WL.pv (pv_move rfl) rfl ?_
      refine WL.pv (pv_lss rfl rfl) rfl ?_
      refine WL.nil ?_
      refine QN.thenW ?_
      refine WC.condD rfl (fun hc33 => ?_) (fun hc33 => ?_)
      · skip
        have hi8 : i < 8 := by omega
        refine WC.skip ?_
        refine QN.thenW ?_
        refine WC.seq ?_
        refine WC.block ?_
        refine WC.seq ?_
        refine WC.region ?_
        refine WL.pv (pv_move rfl) rfl ?_
        refine WL.pv (pv_move rfl) rfl ?_
        refine WL.pv (pv_indexAddrS1 slT_90 rfl rfl rfl (by omega)) rfl ?_
        refine WL.rv (rv_load oneT_91 rfl (hS.rcell (k := 1) rfl (ws_atD (by omega)))) rfl ?_
        refine WL.pv (pv_conv someT_91 Try.underlying86 rfl (cv_32_64 _)) rfl ?_
        refine WL.call (args := [.tmp 40, .const (.int .i64 4)]) cf_61 rfl rfl (beBytes_c _ 4 _ (by omega)) ?_
        rintro _ w ⟨xv, rfl, hF, hRx, hfx⟩
        refine ⟨_, rfl, ?_⟩
        replace hS := hS.add (e := .row xv 5 1 (bs8 (beB ((hashP T j).getD i 0).toUInt64 4))) hF hRx hfx
        obtain ⟨gx, mx, cx, rfl, hmx4, _, _⟩ := hRx.form8 (by rw [beB_len]; omega)
        rw [beB_len] at hmx4
        subst hmx4
        refine WL.pv (pv_assign rfl) rfl ?_
        refine WL.nil ?_
        refine QN.thenW ?_
        refine WC.seq ?_
        refine WC.region ?_
        refine WL.pv (pv_assign rfl) rfl ?_
        refine WL.nil ?_
        refine QN.thenW ?_
        refine WC.block ?_
        refine WC.loop (α := Nat) (fun k => [(2, .pointer (some ⟨b2, 0, none⟩)), (4, .slice (some ⟨gs, 0, none⟩) 8 cs), (6, .pointer (some ⟨b6, 0, none⟩)), (7, .int .i64 (i : Int)), (8, .slice (some ⟨gx, 0, none⟩) 4 cx), (9, .int .i64 (k : Int))]) (fun k w => k ≤ 4 ∧ ST w0 No w [.row (.slice (some ⟨gx, 0, none⟩) 4 cx) 5 1 (bs8 (beB ((hashP T j).getD i 0).toUInt64 4)), .blk b6 25 (bs8 (fillB (keyF (hashP T j)) 32 (4 * i + k))), .row (.slice (some ⟨gs, 0, none⟩) 8 cs) 91 1 (ws (hashP T j)), .blk b2 25 (bs8 (fillB (keyF (hashP T j)) 32 0))]) (fun k => 4 - k) (0) (Sub.cons rfl (Sub.cons rfl (Sub.cons rfl (Sub.cons rfl (Sub.cons rfl (Sub.cons rfl Sub.nil)))))) ⟨by omega, hS⟩ ?_
        rintro k w N hN hR
        obtain ⟨hk, hS⟩ := hR
        refine WC.seq ?_
        refine WC.seq ?_
        refine WC.region ?_
        refine WL.pv (pv_move rfl) rfl ?_
        refine WL.pv (pv_lss rfl rfl) rfl ?_
        refine WL.nil ?_
        refine QN.thenW ?_
        refine WC.condD rfl (fun hc43 => ?_) (fun hc43 => ?_)
        · skip
          have hk4 : k < 4 := by omega
          refine WC.skip ?_
          refine QN.thenW ?_
          refine WC.seq ?_
          refine WC.block ?_
          refine WC.region ?_
          refine WL.pv (pv_move rfl) rfl ?_
          refine WL.pv (pv_mul rfl rfl (by omega)) rfl ?_
          refine WL.pv (pv_move rfl) rfl ?_
          refine WL.pv (pv_add rfl rfl (by omega)) rfl ?_
          refine WL.pv (pv_move rfl) rfl ?_
          refine WL.pv (pv_move rfl) rfl ?_
          refine WL.pv (pv_indexAddrS1 slT_22 rfl rfl rfl (by omega)) rfl ?_
          refine WL.rv (rv_load oneT_5 rfl (hS.rcell (k := 0) rfl (bs8_at (by rw [beB_len]; omega)))) rfl ?_
          refine WL.pv (pv_indexAddrA1Z (j := 4 * i + k) arrT_25 rfl rfl (by omega) (by omega)) rfl ?_
          refine WL.store (k := 1) hS sizeT_5 rfl rfl rfl rfl (by rw [bs8_len, fillB_len]; omega) ?_
          intro w hS
          try simp only [List.set] at hS
          rw [bs8_set, ← keyF_at _ i hk4, fillB_set (keyF (hashP T j))] at hS
          refine WL.nil ?_
          refine QN.blockN ?_
          refine QN.thenW ?_
          refine WC.region ?_
          refine WL.pv (pv_move rfl) rfl ?_
          refine WL.pv (pv_add rfl rfl (by omega)) rfl ?_
          refine WL.pv (pv_assign rfl) rfl ?_
          refine WL.nil ?_
          refine QN.roundE ?_
          refine ⟨(k + 1), (Sub.cons rfl (Sub.cons rfl (Sub.cons rfl (Sub.cons rfl (Sub.cons rfl (Sub.cons rfl Sub.nil)))))), ⟨by omega, hS⟩, ?_⟩
          first | omega | (dsimp only; omega)
        · skip
          obtain rfl : k = 4 := by omega
          replace hS := hS.erase 0
          simp only [List.eraseIdx_zero, List.tail_cons] at hS
          refine WC.exit ?_
          refine QN.thenX ?_
          refine QN.thenX ?_
          refine QN.blockX ?_
          refine QN.blockN ?_
          refine QN.thenW ?_
          refine WC.region ?_
          refine WL.pv (pv_move rfl) rfl ?_
          refine WL.pv (pv_add rfl rfl (by omega)) rfl ?_
          refine WL.pv (pv_assign rfl) rfl ?_
          refine WL.nil ?_
          refine QN.roundE ?_
          refine ⟨(i + 1), (Sub.cons rfl (Sub.cons rfl (Sub.cons rfl (Sub.cons rfl Sub.nil)))), ⟨by omega, hS⟩, ?_⟩
          first | omega | (dsimp only; omega)
      · skip
        obtain rfl : i = 8 := by omega
        refine WC.exit ?_
        refine QN.thenX ?_
        refine QN.thenX ?_
        refine QN.blockX ?_
        refine QN.thenW ?_
        refine WC.seq ?_
        refine WC.region ?_
        refine WL.rv (rv_load_all (k := 0) hS rfl rfl (by rw [aggT_25, bs8_len, fillB_len])) rfl ?_
        refine WL.storeAll (k := 2) (vs := bs8 (fillB (keyF (hashP T j)) 32 (4 * 8))) hS (by rw [sizeT_25, bs8_len, fillB_len]) rfl rfl rfl bs8_one (by simp [bs8_len, fillB_len]) ?_
        intro w hS
        try simp only [List.set] at hS
        refine WL.nil ?_
        refine QN.thenW ?_
        refine WC.ret ?_
        refine QN.retK (k := 2) rfl rfl hS rfl (by rw [aggT_25, bs8_len, fillB_len]) ?_
        refine ⟨?_, hS.fr⟩
        rw [refV, hTT, hnb, outS, show 4 * 8 = 32 from rfl, fillB_all]

set_option maxHeartbeats 1000000 in
set_option maxRecDepth 100000 in
theorem refBytes_c (l : List UInt8) (hl : l.length = 32) (w0 : World) : Calls Try.prog 63 #[.agg (bs8 l).toArray] w0 (OwnPost (bs8 l) 5 w0) := by
  refine calls_of_WC (args := [.agg (bs8 l).toArray]) Try.func63 rfl Try.ntmps63 rfl ?_
  show WC _ _ _ _ [(0, .agg (bs8 l).toArray)] _
  have hS := ST.start w0 No
  refine WC.seq ?_
  refine WC.region ?_
  refine WL.box (vs := bs8 l) hS rfl rfl rfl ?_
  intro b1 w hb1 hS
  refine WL.pv (pv_assign rfl) rfl ?_
  refine WL.nil ?_
  refine QN.thenW ?_
  refine WC.seq ?_
  refine WC.region ?_
  refine WL.makeB (c := 32) hS slT_22 zeroT_5 (by simp) rfl rfl (by omega) (by simp [maxLen]) rfl ?_
  intro b5 w hb5 hS
  rw [show (List.replicate 32 [b8 0]).flatten = bs8 (l.take 0 ++ List.replicate (32 - 0) 0) from by simp [bs8]] at hS
  refine WL.pv (pv_assign rfl) rfl ?_
  refine WL.nil ?_
  refine QN.thenW ?_
  refine WC.seq ?_
  refine WC.seq ?_
  refine WC.region ?_
  refine WL.pv (pv_assign rfl) rfl ?_
  refine WL.nil ?_
  refine QN.thenW ?_
  refine WC.block ?_
  refine WC.loop (α := Nat) (fun k => [(1, .pointer (some ⟨b1, 0, none⟩)), (3, .slice (some ⟨b5, 0, none⟩) 32 32), (4, .int .i64 (k : Int))]) (fun k w => k ≤ 32 ∧ ST w0 No w [.blk b5 5 (bs8 (l.take k ++ List.replicate (32 - k) 0)), .blk b1 25 (bs8 l)]) (fun k => 32 - k) (0) (Sub.cons rfl (Sub.cons rfl (Sub.cons rfl Sub.nil))) ⟨by omega, hS⟩ ?_
  rintro k w N hN hR
  obtain ⟨hk, hS⟩ := hR
  refine WC.seq ?_
  refine WC.seq ?_
  refine WC.region ?_
  refine WL.pv (pv_move rfl) rfl ?_
  refine WL.pv (pv_lss rfl rfl) rfl ?_
  refine WL.nil ?_
  refine QN.thenW ?_
  refine WC.condD rfl (fun hc7 => ?_) (fun hc7 => ?_)
  · skip
    have hk32 : k < 32 := by omega
    refine WC.skip ?_
    refine QN.thenW ?_
    refine WC.seq ?_
    refine WC.block ?_
    refine WC.region ?_
    refine WL.pv (pv_move rfl) rfl ?_
    refine WL.pv (pv_move rfl) rfl ?_
    refine WL.pv (pv_move rfl) rfl ?_
    refine WL.pv (pv_indexAddrA1Z arrT_25 rfl rfl rfl (by omega)) rfl ?_
    refine WL.rv (rv_load_blk (k := 1) hS oneT_5 rfl rfl (bs8_at (by omega))) rfl ?_
    refine WL.pv (pv_indexAddrS1Z slT_22 rfl rfl rfl (by omega)) rfl ?_
    refine WL.store (k := 0) hS sizeT_5 rfl rfl rfl rfl (by rw [bs8_len]; simp; omega) ?_
    intro w hS
    try simp only [List.set] at hS
    rw [bs8_set, fillP_set l 32 k _ (by omega) (by omega) rfl] at hS
    refine WL.nil ?_
    refine QN.blockN ?_
    refine QN.thenW ?_
    refine WC.region ?_
    refine WL.pv (pv_move rfl) rfl ?_
    refine WL.pv (pv_add rfl rfl (by omega)) rfl ?_
    refine WL.pv (pv_assign rfl) rfl ?_
    refine WL.nil ?_
    refine QN.roundE ?_
    refine ⟨(k + 1), (Sub.cons rfl (Sub.cons rfl (Sub.cons rfl Sub.nil))), ⟨by omega, hS⟩, ?_⟩
    first | omega | (dsimp only; omega)
  · skip
    obtain rfl : k = 32 := by omega
    refine WC.exit ?_
    refine QN.thenX ?_
    refine QN.thenX ?_
    refine QN.blockX ?_
    refine QN.thenW ?_
    refine WC.seq ?_
    refine WC.region ?_
    refine WL.pv (pv_move rfl) rfl ?_
    refine WL.pv (pv_assign rfl) rfl ?_
    refine WL.nil ?_
    refine QN.thenW ?_
    refine WC.ret ?_
    refine QN.ret1 rfl rfl ?_
    refine ⟨_, rfl, hS.fr, ?_, fun b hb => by injection hb with hb; subst hb; exact hb5⟩
    have h := (hS.bk (k := 0) rfl).toRw (m := 32) (sz := 1) (by simp [bs8_len, hl]) (by simp [maxLen])
    rw [List.take_of_length_le (by omega), Nat.sub_self, List.replicate_zero, List.append_nil] at h
    exact h

set_option maxHeartbeats 1000000 in
set_option maxRecDepth 100000 in
theorem refSums_c (A : Option Addr) (m c : Nat) (ls : List (List UInt8)) (w0 : World) (hl : RsL w0 (.slice A m c) ls) (hbl : ∀ k, (ls.take k).flatten.length ≤ 10000) : Calls Try.prog 24 #[.slice A m c] w0 (KeyPost (refV ls.flatten) w0) := by
  obtain ⟨vs, hvs, hvl, hall⟩ := hl
  have hln := hvs.len
  have hmx : m ≤ 9223372036854775807 := by have := hvs.len; simp only [maxLen] at this; omega
  refine calls_of_WC (args := [.slice A m c]) Try.func24 rfl Try.ntmps24 rfl ?_
  show WC _ _ _ _ [(0, .slice A m c)] _
  have hS := ST.start w0 No
  refine WC.seq ?_
  refine WC.region ?_
  refine WL.alloc hS zeroT_25 rfl ?_
  intro b2 w hb2 hS
  replace hS := hS.addNil 5 1
  refine WL.nil ?_
  refine QN.thenW ?_
  refine WC.seq ?_
  refine WC.region ?_
  refine WL.pv (pv_assign rfl) rfl ?_
  refine WL.nil ?_
  refine QN.thenW ?_
  refine WC.seq ?_
  refine WC.seq ?_
  refine WC.region ?_
  refine WL.pv (pv_assign rfl) rfl ?_
  refine WL.nil ?_
  refine QN.thenW ?_
  refine WC.block ?_
  refine WC.loop (α := Nat × Value) (fun s => [(0, .slice A m c), (2, .pointer (some ⟨b2, 0, none⟩)), (3, s.2), (4, .int .i64 (s.1 : Int))]) (fun s w => s.1 ≤ m ∧ ST w0 No w [.row s.2 5 1 (bs8 (ls.take s.1).flatten), .blk b2 25 (List.replicate 32 (b8 0))]) (fun s => m - s.1) ((0, .slice none 0 0)) (Sub.cons rfl (Sub.cons rfl (Sub.cons rfl (Sub.cons rfl Sub.nil)))) ⟨by show 0 ≤ m; omega, hS⟩ ?_
  rintro ⟨k, v⟩ w N hN hR
  change N = m - k at hN
  change k ≤ m ∧ ST w0 No w [.row v 5 1 (bs8 (ls.take k).flatten), .blk b2 25 (List.replicate 32 (b8 0))] at hR
  show WC _ _ _ _ [(0, .slice A m c), (2, .pointer (some ⟨b2, 0, none⟩)), (3, v), (4, .int .i64 (k : Int))] _
  obtain ⟨hk, hS⟩ := hR
  obtain ⟨A2, m2, c2, rfl, hm2, hc2, _⟩ := (hS.rw_ (k := 0) rfl).anyForm
  refine WC.seq ?_
  refine WC.seq ?_
  refine WC.region ?_
  refine WL.pv (pv_move rfl) rfl ?_
  refine WL.pv (pv_move rfl) rfl ?_
  refine WL.pv (pv_len slS_29 rfl) rfl ?_
  refine WL.pv (pv_lss rfl rfl) rfl ?_
  refine WL.nil ?_
  refine QN.thenW ?_
  refine WC.condD rfl (fun hc8 => ?_) (fun hc8 => ?_)
  · skip
    have hkm : k < m := by omega
    obtain ⟨bb, o, rfl, _, hc1, hc2, hcell⟩ := hvs.at_ (by omega)
    have hvk := hall k (by omega) (by omega)
    have e1 : (ls.take k).flatten ++ ls[k]'(by omega) = (ls.take (k + 1)).flatten := by rw [List.take_succ_eq_append_getElem (by omega), List.flatten_append, List.flatten_singleton]
    have hle := hbl (k + 1)
    rw [← e1, List.length_append] at hle
    refine WC.skip ?_
    refine QN.thenW ?_
    refine WC.seq ?_
    refine WC.block ?_
    refine WC.region ?_
    refine WL.pv (pv_move rfl) rfl ?_
    refine WL.pv (pv_move rfl) rfl ?_
    refine WL.pv (pv_move rfl) rfl ?_
    refine WL.pv (pv_indexAddrS1 slT_29 rfl rfl rfl (by omega)) rfl ?_
    refine WL.rv (rv_load oneT_22 rfl (hS.fr.cellS (hcell k _ (List.getElem?_eq_getElem (by omega))) (fun h => h))) rfl ?_
    refine WL.append (k := 0) (N := 65536) hS slT_22 zlenT_5 (by decide) rfl rfl rfl (hvk.no hS.fr) bs8_one (by rw [bs8_len, bs8_len]; omega) (by omega) (by simp [maxLen]) rfl ?_
    intro v1 w hFr16 hS
    try simp only [List.set] at hS
    rw [← bs8_app, e1] at hS
    refine WL.pv (pv_assign rfl) rfl ?_
    refine WL.nil ?_
    refine QN.blockN ?_
    refine QN.thenW ?_
    refine WC.region ?_
    refine WL.pv (pv_move rfl) rfl ?_
    refine WL.pv (pv_add rfl rfl (by omega)) rfl ?_
    refine WL.pv (pv_assign rfl) rfl ?_
    refine WL.nil ?_
    refine QN.roundE ?_
    refine ⟨((k + 1, v1)), (Sub.cons rfl (Sub.cons rfl (Sub.cons rfl (Sub.cons rfl Sub.nil)))), ⟨by show k + 1 ≤ m; omega, hS⟩, ?_⟩
    first | omega | (dsimp only; omega)
  · skip
    obtain rfl : k = m := by omega
    have e2 : ls.take k = ls := List.take_of_length_le (by omega)
    rw [e2] at hS
    refine WC.exit ?_
    refine QN.thenX ?_
    refine QN.thenX ?_
    refine QN.blockX ?_
    refine QN.thenW ?_
    refine WC.seq ?_
    refine WC.region ?_
    refine WL.pv (pv_move rfl) rfl ?_
    refine WL.call (args := [.tmp 17]) cf_21 rfl rfl (refSum_c _ _ _ ls.flatten _ (hS.rw_ (k := 0) rfl).rs (by have := hbl k; rwa [e2] at this)) ?_
    rintro _ w ⟨rfl, hF⟩
    refine ⟨_, rfl, ?_⟩
    replace hS := hS.no hF
    refine WL.storeAll (k := 1) (vs := bs8 (refV ls.flatten)) hS (by rw [sizeT_25, bs8_len, refV_len]) rfl rfl rfl bs8_one (by simp [bs8_len, refV_len]) ?_
    intro w hS
    try simp only [List.set] at hS
    refine WL.nil ?_
    refine QN.thenW ?_
    refine WC.ret ?_
    refine QN.retK (k := 1) rfl rfl hS rfl (by rw [aggT_25, bs8_len, refV_len]) ?_
    exact ⟨rfl, hS.fr⟩

end Go.Proofs.Ytjcebkhhgdgohaa
