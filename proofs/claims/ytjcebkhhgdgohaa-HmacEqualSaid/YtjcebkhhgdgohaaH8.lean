/- What a few functions of the program compute, part H8. -/
import Derived.Test.YtjcebkhhgdgohaaH3
import Derived.Test.YtjcebkhhgdgohaaEngY
namespace Go.Proofs.Ytjcebkhhgdgohaa
open Go Go.RowKit Go.Eng
theorem cf_25 : callable Try.prog 25 = true := by kernel_rfl
theorem cf_28 : callable Try.prog 28 = true := by kernel_rfl

/-- The bits by which two texts differ, gathered. -/
def diffB (la lb : List UInt8) : Nat → UInt8
  | 0 => 0
  | k + 1 => diffB la lb k ||| (la.getD k 0 ^^^ lb.getD k 0)
theorem or_zero8 (a b : UInt8) : a ||| b = 0 ↔ a = 0 ∧ b = 0 := by
  refine ⟨fun h => ?_, fun h => by rw [h.1, h.2]; rfl⟩
  have key : ∀ (x y : BitVec 8), x ||| y = 0 → x = 0 ∧ y = 0 := by
    intro x y h
    refine ⟨?_, ?_⟩ <;> (apply BitVec.eq_of_getElem_eq; intro i hi; have := congrArg (fun z => z.getLsbD i) h; simp at this; simp_all)
  have h2 := key a.toBitVec b.toBitVec (by have := congrArg UInt8.toBitVec h; simpa using this)
  exact ⟨UInt8.toBitVec_inj.1 (by simpa using h2.1), UInt8.toBitVec_inj.1 (by simpa using h2.2)⟩
theorem xor_zero8 (a b : UInt8) : a ^^^ b = 0 ↔ a = b := by
  refine ⟨fun h => ?_, fun h => by rw [h]; simp⟩
  have := congrArg (fun z => z ^^^ b) h
  simpa [UInt8.xor_assoc] using this
theorem diffB_zero (la lb : List UInt8) (k : Nat) : diffB la lb k = 0 ↔ ∀ j, j < k → la.getD j 0 = lb.getD j 0 := by
  induction k with
  | zero => simp [diffB]
  | succ k ih =>
    rw [diffB, or_zero8, xor_zero8, ih]
    refine ⟨fun h j hj => ?_, fun h => ⟨fun j hj => h j (by omega), h k (by omega)⟩⟩
    by_cases hjk : j = k
    · rw [hjk]; exact h.2
    · exact h.1 j (by omega)
theorem diffB_all (la lb : List UInt8) (h : la.length = lb.length) : diffB la lb la.length = 0 ↔ la = lb := by
  rw [diffB_zero]
  refine ⟨fun hj => List.ext_getElem h fun i h1 h2 => ?_, fun h => by rw [h]; simp⟩
  have := hj i h1
  simpa [h1, h2] using this

set_option maxRecDepth 100000 in
theorem equal_c (A B : Option Addr) (m c m2 c2 : Nat) (la lb : List UInt8) (w0 : World) (ha : Rs w0 (.slice A m c) 1 (bs8 la)) (hb : Rs w0 (.slice B m2 c2) 1 (bs8 lb)) : Calls Try.prog 28 #[.slice A m c, .slice B m2 c2] w0 fun e w => e = .returned (.bool (decide (la = lb))) ∧ Fr No w0 w := by
  have hln := ha.len
  rw [bs8_len] at hln
  have hln2 := hb.len
  rw [bs8_len] at hln2
  have hmx : m ≤ 9223372036854775807 := by have := hln; simp only [maxLen] at this; omega
  have hmx2 : m2 ≤ 9223372036854775807 := by have := hln2; simp only [maxLen] at this; omega
  refine calls_of_WC (args := [.slice A m c, .slice B m2 c2]) Try.func28 rfl Try.ntmps28 rfl ?_
  show WC _ _ _ _ [(0, .slice A m c), (1, .slice B m2 c2)] _
  have hS := ST.start w0 No
  refine WC.seq ?_
  refine WC.region ?_
  refine WL.pv (pv_assign rfl) rfl ?_
  refine WL.nil ?_
  refine QN.thenW ?_
  refine WC.seq ?_
  refine WC.seq ?_
  refine WC.region ?_
  refine WL.pv (pv_move rfl) rfl ?_
  refine WL.pv (pv_len slS_22 rfl) rfl ?_
  refine WL.pv (pv_move rfl) rfl ?_
  refine WL.pv (pv_len slS_22 rfl) rfl ?_
  refine WL.pv (pv_neq rfl rfl) rfl ?_
  refine WL.nil ?_
  refine QN.thenW ?_
  refine WC.condD rfl (fun hc11 => ?_) (fun hc11 => ?_)
  · skip
    have hne : la ≠ lb := fun h => by rw [h] at hln; omega
    refine WC.seq ?_
    refine WC.region ?_
    refine WL.pv (pv_assign rfl) rfl ?_
    refine WL.nil ?_
    refine QN.thenW ?_
    refine WC.ret ?_
    refine QN.thenR ?_
    refine QN.ret1 rfl rfl ?_
    exact ⟨by rw [decide_eq_false hne], hS.fr⟩
  · skip
    obtain rfl : m = m2 := by omega
    have hll : la.length = lb.length := by omega
    refine WC.skip ?_
    refine QN.thenW ?_
    refine WC.seq ?_
    refine WC.region ?_
    refine WL.pv (pv_assign rfl) rfl ?_
    refine WL.nil ?_
    refine QN.thenW ?_
    refine WC.seq ?_
    refine WC.seq ?_
    refine WC.region ?_
    refine WL.pv (pv_move rfl) rfl ?_
    refine WL.pv (pv_len slS_22 rfl) rfl ?_
    refine WL.pv (pv_move rfl) rfl ?_
    refine WL.nil ?_
    refine QN.thenW ?_
    refine WC.block ?_
    refine WC.loop (α := Nat) (fun k => [(0, .slice A m c), (1, .slice B m c2), (5, b8 (diffB la lb k)), (13, .int .i64 (m : Int)), (14, .int .i64 (k : Int))]) (fun k w => k ≤ m ∧ ST w0 No w []) (fun k => m - k) (0) (Sub.cons rfl (Sub.cons rfl (Sub.cons rfl (Sub.cons rfl (Sub.cons rfl Sub.nil))))) ⟨by omega, hS⟩ ?_
    rintro k w N hN hR
    obtain ⟨hk, hS⟩ := hR
    refine WC.seq ?_
    refine WC.region ?_
    refine WL.pv (pv_lss rfl rfl) rfl ?_
    refine WL.nil ?_
    refine QN.thenW ?_
    refine WC.seq ?_
    refine WC.condD rfl (fun hc15 => ?_) (fun hc15 => ?_)
    · skip
      have hkm : k < m := by omega
      obtain ⟨ba, oa, rfl, _, _, _, hca⟩ := ha.at_ (by rw [bs8_len]; omega)
      obtain ⟨bb, ob, rfl, _, _, _, hcb⟩ := hb.at_ (by rw [bs8_len]; omega)
      have hsub : some (b8 (diffB la lb k ||| (la[k]'(by omega) ^^^ lb[k]'(by omega)))) = some (b8 (diffB la lb (k + 1))) := by
        rw [diffB]; simp [show k < la.length from by omega, show k < lb.length from by omega]
      refine WC.skip ?_
      refine QN.thenW ?_
      refine WC.seq ?_
      refine WC.block ?_
      refine WC.seq ?_
      refine WC.region ?_
      refine WL.pv (pv_move rfl) rfl ?_
      refine WL.pv (pv_assign rfl) rfl ?_
      refine WL.nil ?_
      refine QN.thenW ?_
      refine WC.still mixedO (by kernel_rfl) ?_
      have hS := hS.no (Fr.drew _)
      refine WS.pv (pv_move rfl) rfl ?_
      refine WS.pv (pv_move rfl) rfl ?_
      refine WS.pv (pv_move rfl) rfl ?_
      refine WS.pv (pv_indexAddrS1 (j := k) slT_22 rfl rfl (by omega) (by omega)) rfl ?_
      refine WS.rv (rv_load oneT_5 rfl (hS.fr.cellS (hca k _ (bs8_at (by omega))) (fun h => h))) rfl ?_
      refine WS.pv (pv_move rfl) rfl ?_
      refine WS.pv (pv_move rfl) rfl ?_
      refine WS.pv (pv_indexAddrS1 (j := k) slT_22 rfl rfl (by omega) (by omega)) rfl ?_
      refine WS.rv (rv_load oneT_5 rfl (hS.fr.cellS (hcb k _ (bs8_at (by omega))) (fun h => h))) rfl ?_
      refine WS.pv (pv_xor8 rfl rfl) rfl ?_
      refine WS.pv (pv_or8 rfl rfl) rfl ?_
      refine WS.pv (pv_assign rfl) rfl ?_
      refine WS.done ?_
      refine QN.blockN ?_
      refine QN.thenW ?_
      refine WC.region ?_
      refine WL.pv (pv_add rfl rfl (by omega)) rfl ?_
      refine WL.pv (pv_move rfl) rfl ?_
      refine WL.nil ?_
      refine QN.roundE ?_
      refine ⟨(k + 1), (Sub.cons rfl (Sub.cons rfl (Sub.cons hsub (Sub.cons rfl (Sub.cons rfl Sub.nil))))), ⟨by omega, hS⟩, ?_⟩
      first | omega | (dsimp only; omega)
    · skip
      obtain rfl : k = m := by omega
      refine WC.exit ?_
      refine QN.thenX ?_
      refine QN.thenX ?_
      refine QN.blockX ?_
      refine QN.thenW ?_
      refine WC.seq ?_
      refine WC.region ?_
      refine WL.pv (pv_move rfl) rfl ?_
      refine WL.pv (pv_eql rfl rfl) rfl ?_
      refine WL.pv (pv_assign rfl) rfl ?_
      refine WL.nil ?_
      refine QN.thenW ?_
      refine WC.ret ?_
      refine QN.ret1 rfl rfl ?_
      refine ⟨?_, hS.fr⟩
      congr 2
      apply decide_eq_decide.2
      rw [show k = la.length from by omega]
      refine Iff.trans ?_ (diffB_all la lb hll)
      exact ⟨fun h => UInt8.toNat_inj.1 (by exact_mod_cast h), fun h => by rw [h]; rfl⟩

set_option maxRecDepth 100000 in
theorem equalNe_c (A B : Option Addr) (m c m2 c2 : Nat) (w0 : World) (hne : m ≠ m2) : Calls Try.prog 28 #[.slice A m c, .slice B m2 c2] w0 fun e w => e = .returned (.bool false) ∧ Fr No w0 w := by
  refine calls_of_WC (args := [.slice A m c, .slice B m2 c2]) Try.func28 rfl Try.ntmps28 rfl ?_
  show WC _ _ _ _ [(0, .slice A m c), (1, .slice B m2 c2)] _
  have hS := ST.start w0 No
  refine WC.seq ?_
  refine WC.region ?_
  refine WL.pv (pv_assign rfl) rfl ?_
  refine WL.nil ?_
  refine QN.thenW ?_
  refine WC.seq ?_
  refine WC.seq ?_
  refine WC.region ?_
  refine WL.pv (pv_move rfl) rfl ?_
  refine WL.pv (pv_len slS_22 rfl) rfl ?_
  refine WL.pv (pv_move rfl) rfl ?_
  refine WL.pv (pv_len slS_22 rfl) rfl ?_
  refine WL.pv (pv_neq rfl rfl) rfl ?_
  refine WL.nil ?_
  refine QN.thenW ?_
  refine WC.condDT rfl (by omega) ?_
  refine WC.seq ?_
  refine WC.region ?_
  refine WL.pv (pv_assign rfl) rfl ?_
  refine WL.nil ?_
  refine QN.thenW ?_
  refine WC.ret ?_
  refine QN.thenR ?_
  refine QN.ret1 rfl rfl ?_
  exact ⟨rfl, hS.fr⟩

set_option maxRecDepth 100000 in
theorem hmacEqual_c (A B : Option Addr) (m c m2 c2 : Nat) (la lb : List UInt8) (w0 : World) (ha : Rs w0 (.slice A m c) 1 (bs8 la)) (hb : Rs w0 (.slice B m2 c2) 1 (bs8 lb)) (hm : m ≤ 140737488351232) (hm2 : m2 ≤ 140737488351232) : Calls Try.prog 9 #[.slice A m c, .slice B m2 c2] w0 fun e w => e = .returned (.bool true) ∧ Fr No w0 w := by
  have hln := ha.len
  rw [bs8_len] at hln
  have hln2 := hb.len
  rw [bs8_len] at hln2
  refine calls_of_WC (args := [.slice A m c, .slice B m2 c2]) Try.func9 rfl Try.ntmps9 rfl ?_
  show WC _ _ _ _ [(0, .slice A m c), (1, .slice B m2 c2)] _
  have hS := ST.start w0 No
  refine WC.seq ?_
  refine WC.region ?_
  refine WL.pv (pv_assign rfl) rfl ?_
  refine WL.nil ?_
  refine QN.thenW ?_
  refine WC.seq ?_
  refine WC.seq ?_
  refine WC.region ?_
  refine WL.call (args := []) cf_25 rfl rfl (wakesH_c _) ?_
  rintro _ w ⟨rfl, hF⟩
  refine ⟨_, rfl, ?_⟩
  replace hS := hS.no hF
  refine WL.pv (pv_not rfl) rfl ?_
  refine WL.nil ?_
  refine QN.thenW ?_
  refine WC.condF rfl rfl ?_
  refine WC.skip ?_
  refine QN.thenW ?_
  refine WC.seq ?_
  refine WC.region ?_
  refine WL.pv (pv_move rfl) rfl ?_
  refine WL.pv (pv_move rfl) rfl ?_
  refine WL.call (args := [.tmp 7, .tmp 8]) cf_28 rfl rfl (equal_c _ _ _ _ _ _ la lb _ (ha.no hS.fr) (hb.no hS.fr)) ?_
  rintro _ w ⟨rfl, hF⟩
  refine ⟨_, rfl, ?_⟩
  replace hS := hS.no hF
  refine WL.pv (pv_move rfl) rfl ?_
  refine WL.pv (pv_move rfl) rfl ?_
  refine WL.call (args := [.tmp 10, .tmp 11]) cf_22 rfl rfl (same_c _ _ _ _ _ _ la lb _ (ha.no hS.fr) (hb.no hS.fr)) ?_
  rintro _ w ⟨rfl, hF⟩
  refine ⟨_, rfl, ?_⟩
  replace hS := hS.no hF
  refine WL.pv (pv_eqlB Try.underlying4 rfl rfl) rfl ?_
  refine WL.pv (pv_move rfl) rfl ?_
  refine WL.guardT rfl rfl rfl (lkB rfl (by simp)) ?_
  refine WL.pv (pv_move rfl) rfl ?_
  refine WL.guardT rfl rfl rfl (lkB rfl (by simp)) ?_
  refine WL.build0 hS slT_22 rfl ?_
  intro r16 w hr16 hS
  refine WL.guardT rfl rfl rfl (lkB rfl (by simp)) ?_
  refine WL.pv (pv_move rfl) rfl ?_
  refine WL.guardT rfl rfl rfl (lkB rfl (by simp)) ?_
  refine WL.append (k := 0) (N := 140737488351232) hS slT_22 zlenT_5 (by decide) rfl rfl rfl (ha.no hS.fr) bs8_one (by simp [bs8_len]; omega) (by omega) (by simp [maxLen]) rfl ?_
  intro v18 w hFr18 hS
  try simp only [List.set] at hS
  rw [List.nil_append] at hS
  obtain ⟨A3, m3, c3, rfl, _, _, _⟩ := (hS.rw_ (k := 0) rfl).anyForm
  refine WL.guardT rfl rfl rfl (lkB rfl (by simp)) ?_
  refine WL.call (args := [.tmp 15, .tmp 18]) cf_28 rfl rfl (equal_c _ _ _ _ _ _ la la _ (ha.no hS.fr) (hS.rw_ (k := 0) rfl).rs) ?_
  rintro _ w ⟨rfl, hF⟩
  refine ⟨_, rfl, ?_⟩
  replace hS := hS.no hF
  refine WL.pv (pv_pick1 (lkB rfl (by simp)) rfl) rfl ?_
  refine WL.pv (pv_move rfl) rfl ?_
  refine WL.guardT rfl rfl rfl (lkB rfl (by simp)) ?_
  refine WL.build1 (v := b8 0) hS slT_22 zeroT_5 rfl rfl rfl rfl ?_
  intro b22 w hb22 hS
  replace hS := hS.toRow (k := 0) (m := 1) (sz := 1) rfl (by simp) (by simp [maxLen])
  simp only [List.set] at hS
  refine WL.guardT rfl rfl rfl (lkB rfl (by simp)) ?_
  refine WL.pv (pv_move rfl) rfl ?_
  refine WL.guardT rfl rfl rfl (lkB rfl (by simp)) ?_
  refine WL.appendL (k := 0) (N := 140737488351233) hS slT_22 zlenT_5 (by decide) rfl rfl rfl (hb.no hS.fr) bs8_one (by simp [bs8_len]; omega) (by omega) (by omega) rfl ?_
  intro A4 c4 w hS
  refine WL.guardT rfl rfl rfl (lkB rfl (by simp)) ?_
  refine WL.pv (pv_move rfl) rfl ?_
  refine WL.guardT rfl rfl rfl (lkB rfl (by simp)) ?_
  refine WL.call (args := [.tmp 24, .tmp 25]) cf_28 rfl rfl (equalNe_c _ _ _ _ _ _ _ (by omega)) ?_
  rintro _ w ⟨rfl, hF⟩
  refine ⟨_, rfl, ?_⟩
  replace hS := hS.no hF
  refine WL.guardT rfl rfl rfl (lkB rfl (by simp)) ?_
  refine WL.pv (pv_not rfl) rfl ?_
  refine WL.pv (pv_pick1 (lkB rfl (by simp)) rfl) rfl ?_
  refine WL.pv (pv_assign rfl) rfl ?_
  refine WL.nil ?_
  refine QN.thenW ?_
  refine WC.ret ?_
  refine QN.ret1 rfl rfl ?_
  exact ⟨rfl, hS.fr⟩

end Go.Proofs.Ytjcebkhhgdgohaa
