/- More on the functions of the tag. -/
import Derived.Test.YtjcebkhhgdgohaaBa
namespace Go.Proofs.Ytjcebkhhgdgohaa
open Go Go.RowKit Go.Eng
theorem cf_28 : callable Try.prog 28 = true := by kernel_rfl

/-- The bits by which two texts differ, gathered. -/
def diffB (la lb : List UInt8) : Nat → UInt8
  | 0 => 0
  | k + 1 => diffB la lb k ||| (la.getD k 0 ^^^ lb.getD k 0)
theorem or_zero8 (a b : UInt8) : a ||| b = 0 ↔ a = 0 ∧ b = 0 := by
  refine ⟨fun h => ?_, fun h => by rw [h.1, h.2]; rfl⟩
  have key : ∀ (x y : BitVec 8), x ||| y = 0 → x = 0 ∧ y = 0 := by
    intro x y h
    refine ⟨?_, ?_⟩ <;> (apply BitVec.eq_of_getElem_eq; intro i hi; have := congrArg (fun z => z.getLsbD i) h; simp at this; simp_all)
  have h2 := key a.toBitVec b.toBitVec (by have := congrArg UInt8.toBitVec h; simpa using this)
  exact ⟨UInt8.toBitVec_inj.1 (by simpa using h2.1), UInt8.toBitVec_inj.1 (by simpa using h2.2)⟩
theorem xor_zero8 (a b : UInt8) : a ^^^ b = 0 ↔ a = b := by
  refine ⟨fun h => ?_, fun h => by rw [h]; simp⟩
  have := congrArg (fun z => z ^^^ b) h
  simpa [UInt8.xor_assoc] using this
theorem diffB_zero (la lb : List UInt8) (k : Nat) : diffB la lb k = 0 ↔ ∀ j, j < k → la.getD j 0 = lb.getD j 0 := by
  induction k with
  | zero => simp [diffB]
  | succ k ih =>
    rw [diffB, or_zero8, xor_zero8, ih]
    refine ⟨fun h j hj => ?_, fun h => ⟨fun j hj => h j (by omega), h k (by omega)⟩⟩
    by_cases hjk : j = k
    · rw [hjk]; exact h.2
    · exact h.1 j (by omega)
theorem diffB_all (la lb : List UInt8) (h : la.length = lb.length) : diffB la lb la.length = 0 ↔ la = lb := by
  rw [diffB_zero]
  refine ⟨fun hj => List.ext_getElem h fun i h1 h2 => ?_, fun h => by rw [h]; simp⟩
  have := hj i h1
  simpa [h1, h2] using this

set_option maxRecDepth 100000 in
theorem equal_c (A B : Option Addr) (m c m2 c2 : Nat) (la lb : List UInt8) (w0 : World) (ha : Rs w0 (.slice A m c) 1 (bs8 la)) (hb : Rs w0 (.slice B m2 c2) 1 (bs8 lb)) : Calls Try.prog 28 #[.slice A m c, .slice B m2 c2] w0 fun e w => e = .returned (.bool (decide (la = lb))) ∧ Fr No w0 w := by
  have hln := ha.len
  rw [bs8_len] at hln
  have hln2 := hb.len
  rw [bs8_len] at hln2
  have hmx : m ≤ 9223372036854775807 := by have := hln; simp only [maxLen] at this; omega
  have hmx2 : m2 ≤ 9223372036854775807 := by have := hln2; simp only [maxLen] at this; omega
  refine calls_of_WC (args := [.slice A m c, .slice B m2 c2]) Try.func28 rfl Try.ntmps28 rfl ?_
  show WC _ _ _ _ [(0, .slice A m c), (1, .slice B m2 c2)] _
  have hS := ST.start w0 No
  refine WC.seq ?_
  refine WC.region ?_
  refine WL.pv (pv_assign rfl) rfl ?_
  refine WL.nil ?_
  refine QN.thenW ?_
  refine WC.seq ?_
  refine WC.seq ?_
  refine WC.region ?_
  refine WL.pv (pv_move rfl) rfl ?_
  refine WL.pv (pv_len slS_22 rfl) rfl ?_
  refine WL.pv (pv_move rfl) rfl ?_
  refine WL.pv (pv_len slS_22 rfl) rfl ?_
  refine WL.pv (pv_neq rfl rfl) rfl ?_
  refine WL.nil ?_
  refine QN.thenW ?_
  refine WC.condD rfl (fun hc11 => ?_) (fun hc11 => ?_)
  · skip
    have hne : la ≠ lb := fun h => by rw [h] at hln; omega
    refine WC.seq ?_
    refine WC.region ?_
    refine WL.pv (pv_assign rfl) rfl ?_
    refine WL.nil ?_
    refine QN.thenW ?_
    refine WC.ret ?_
    refine QN.thenR ?_
    refine QN.ret1 rfl rfl ?_
    exact ⟨by rw [decide_eq_false hne], hS.fr⟩
  · skip
    obtain rfl : m = m2 := by omega
    have hll : la.length = lb.length := by omega
    refine WC.skip ?_
    refine QN.thenW ?_
    refine WC.seq ?_
    refine WC.region ?_
    refine WL.pv (pv_assign rfl) rfl ?_
    refine WL.nil ?_
    refine QN.thenW ?_
    refine WC.seq ?_
    refine WC.seq ?_
    refine WC.region ?_
    refine WL.pv (pv_move rfl) rfl ?_
    refine WL.pv (pv_len slS_22 rfl) rfl ?_
    refine WL.pv (pv_move rfl) rfl ?_
    refine WL.nil ?_
    refine QN.thenW ?_
    refine WC.block ?_
    refine WC.loop (α := Nat) (fun k => [(0, .slice A m c), (1, .slice B m c2), (5, b8 (diffB la lb k)), (13, .int .i64 (m : Int)), (14, .int .i64 (k : Int))]) (fun k w => k ≤ m ∧ ST w0 No w []) (fun k => m - k) (0) (Sub.cons rfl (Sub.cons rfl (Sub.cons rfl (Sub.cons rfl (Sub.cons rfl Sub.nil))))) ⟨by omega, hS⟩ ?_
    rintro k w N hN hR
    obtain ⟨hk, hS⟩ := hR
    refine WC.seq ?_
    refine WC.region ?_
    refine WL.pv (pv_lss rfl rfl) rfl ?_
    refine WL.nil ?_
    refine QN.thenW ?_
    refine WC.seq ?_
    refine WC.condD rfl (fun hc15 => ?_) (fun hc15 => ?_)
    · skip
      have hkm : k < m := by omega
      obtain ⟨ba, oa, rfl, _, _, _, hca⟩ := ha.at_ (by rw [bs8_len]; omega)
      obtain ⟨bb, ob, rfl, _, _, _, hcb⟩ := hb.at_ (by rw [bs8_len]; omega)
      have hsub : some (b8 (diffB la lb k ||| (la[k]'(by omega) ^^^ lb[k]'(by omega)))) = some (b8 (diffB la lb (k + 1))) := by
        rw [diffB]; simp [show k < la.length from by omega, show k < lb.length from by omega]
      refine WC.skip ?_
      refine QN.thenW ?_
      refine WC.seq ?_
      refine WC.block ?_
      refine WC.seq ?_
      refine WC.region ?_
      refine WL.pv (pv_move rfl) rfl ?_
      refine WL.pv (pv_assign rfl) rfl ?_
      refine WL.nil ?_
      refine QN.thenW ?_
      refine WC.still mixedO (by kernel_rfl) ?_
      have hS := hS.no (Fr.drew _)
      refine WS.pv (pv_move rfl) rfl ?_
      refine WS.pv (pv_move rfl) rfl ?_
      refine WS.pv (pv_move rfl) rfl ?_
      refine WS.pv (pv_indexAddrS1 (j := k) slT_22 rfl rfl (by omega) (by omega)) rfl ?_
      refine WS.rv (rv_load oneT_5 rfl (hS.fr.cellS (hca k _ (bs8_at (by omega))) (fun h => h))) rfl ?_
      refine WS.pv (pv_move rfl) rfl ?_
      refine WS.pv (pv_move rfl) rfl ?_
      refine WS.pv (pv_indexAddrS1 (j := k) slT_22 rfl rfl (by omega) (by omega)) rfl ?_
      refine WS.rv (rv_load oneT_5 rfl (hS.fr.cellS (hcb k _ (bs8_at (by omega))) (fun h => h))) rfl ?_
      refine WS.pv (pv_xor8 rfl rfl) rfl ?_
      refine WS.pv (pv_or8 rfl rfl) rfl ?_
      refine WS.pv (pv_assign rfl) rfl ?_
      refine WS.done ?_
      refine QN.blockN ?_
      refine QN.thenW ?_
      refine WC.region ?_
      refine WL.pv (pv_add rfl rfl (by omega)) rfl ?_
      refine WL.pv (pv_move rfl) rfl ?_
      refine WL.nil ?_
      refine QN.roundE ?_
      refine ⟨(k + 1), (Sub.cons rfl (Sub.cons rfl (Sub.cons hsub (Sub.cons rfl (Sub.cons rfl Sub.nil))))), ⟨by omega, hS⟩, ?_⟩
      first | omega | (dsimp only; omega)
    · skip
      obtain rfl : k = m := by omega
      refine WC.exit ?_
      refine QN.thenX ?_
      refine QN.thenX ?_
      refine QN.blockX ?_
      refine QN.thenW ?_
      refine WC.seq ?_
      refine WC.region ?_
      refine WL.pv (pv_move rfl) rfl ?_
      refine WL.pv (pv_eql rfl rfl) rfl ?_
      refine WL.pv (pv_assign rfl) rfl ?_
      refine WL.nil ?_
      refine QN.thenW ?_
      refine WC.ret ?_
      refine QN.ret1 rfl rfl ?_
      refine ⟨?_, hS.fr⟩
      congr 2
      apply decide_eq_decide.2
      rw [show k = la.length from by omega]
      refine Iff.trans ?_ (diffB_all la lb hll)
      exact ⟨fun h => UInt8.toNat_inj.1 (by exact_mod_cast h), fun h => by rw [h]; rfl⟩

set_option maxRecDepth 100000 in
theorem equalNe_c (A B : Option Addr) (m c m2 c2 : Nat) (w0 : World) (hne : m ≠ m2) : Calls Try.prog 28 #[.slice A m c, .slice B m2 c2] w0 fun e w => e = .returned (.bool false) ∧ Fr No w0 w := by
  refine calls_of_WC (args := [.slice A m c, .slice B m2 c2]) Try.func28 rfl Try.ntmps28 rfl ?_
  show WC _ _ _ _ [(0, .slice A m c), (1, .slice B m2 c2)] _
  have hS := ST.start w0 No
  refine WC.seq ?_
  refine WC.region ?_
  refine WL.pv (pv_assign rfl) rfl ?_
  refine WL.nil ?_
  refine QN.thenW ?_
  refine WC.seq ?_
  refine WC.seq ?_
  refine WC.region ?_
  refine WL.pv (pv_move rfl) rfl ?_
  refine WL.pv (pv_len slS_22 rfl) rfl ?_
  refine WL.pv (pv_move rfl) rfl ?_
  refine WL.pv (pv_len slS_22 rfl) rfl ?_
  refine WL.pv (pv_neq rfl rfl) rfl ?_
  refine WL.nil ?_
  refine QN.thenW ?_
  refine WC.condDT rfl (by omega) ?_
  refine WC.seq ?_
  refine WC.region ?_
  refine WL.pv (pv_assign rfl) rfl ?_
  refine WL.nil ?_
  refine QN.thenW ?_
  refine WC.ret ?_
  refine QN.thenR ?_
  refine QN.ret1 rfl rfl ?_
  exact ⟨rfl, hS.fr⟩

set_option maxRecDepth 100000 in
theorem hmacEqual_c (A B : Option Addr) (m c m2 c2 : Nat) (la lb : List UInt8) (w0 : World) (ha : Rs w0 (.slice A m c) 1 (bs8 la)) (hb : Rs w0 (.slice B m2 c2) 1 (bs8 lb)) (hm : m ≤ 140737488351232) (hm2 : m2 ≤ 140737488351232) : Calls Try.prog 9 #[.slice A m c, .slice B m2 c2] w0 fun e w => e = .returned (.bool true) ∧ Fr No w0 w := by
  have hln := ha.len
  rw [bs8_len] at hln
  have hln2 := hb.len
  rw [bs8_len] at hln2
  refine calls_of_WC (args := [.slice A m c, .slice B m2 c2]) Try.func9 rfl Try.ntmps9 rfl ?_
  show WC _ _ _ _ [(0, .slice A m c), (1, .slice B m2 c2)] _
  have hS := ST.start w0 No
  refine WC.seq ?_
  refine WC.region ?_
  refine WL.pv (pv_assign rfl) rfl ?_
  refine WL.nil ?_
  refine QN.thenW ?_
  refine WC.seq ?_
  refine WC.seq ?_
  refine WC.region ?_
  refine WL.call (args := []) cf_25 rfl rfl (wakesH_c _) ?_
  rintro _ w ⟨rfl, hF⟩
  refine ⟨_, rfl, ?_⟩
  replace hS := hS.no hF
  refine WL.pv (pv_not rfl) rfl ?_
  refine WL.nil ?_
  refine QN.thenW ?_
  refine WC.condF rfl rfl ?_
  refine WC.skip ?_
  refine QN.thenW ?_
  refine WC.seq ?_
  refine WC.region ?_
  refine WL.pv (pv_move rfl) rfl ?_
  refine WL.pv (pv_move rfl) rfl ?_
  refine WL.call (args := [.tmp 7, .tmp 8]) cf_28 rfl rfl (equal_c _ _ _ _ _ _ la lb _ (ha.no hS.fr) (hb.no hS.fr)) ?_
  rintro _ w ⟨rfl, hF⟩
  refine ⟨_, rfl, ?_⟩
  replace hS := hS.no hF
  refine WL.pv (pv_move rfl) rfl ?_
  refine WL.pv (pv_move rfl) rfl ?_
  refine WL.call (args := [.tmp 10, .tmp 11]) cf_22 rfl rfl (same_c _ _ _ _ _ _ la lb _ (ha.no hS.fr) (hb.no hS.fr)) ?_
  rintro _ w ⟨rfl, hF⟩
  refine ⟨_, rfl, ?_⟩
  replace hS := hS.no hF
  refine WL.pv (pv_eqlB Try.underlying4 rfl rfl) rfl ?_
  refine WL.pv (pv_move rfl) rfl ?_
  refine WL.guardT rfl rfl rfl (lkB rfl (by simp)) ?_
  refine WL.pv (pv_move rfl) rfl ?_
  refine WL.guardT rfl rfl rfl (lkB rfl (by simp)) ?_
  refine WL.build0 hS slT_22 rfl ?_
  intro r16 w hr16 hS
  refine WL.guardT rfl rfl rfl (lkB rfl (by simp)) ?_
  refine WL.pv (pv_move rfl) rfl ?_
  refine WL.guardT rfl rfl rfl (lkB rfl (by simp)) ?_
  refine WL.append (k := 0) (N := 140737488351232) hS slT_22 zlenT_5 (by decide) rfl rfl rfl (ha.no hS.fr) bs8_one (by simp [bs8_len]; omega) (by omega) (by simp [maxLen]) rfl ?_
  intro v18 w hFr18 hS
  try simp only [List.set] at hS
  rw [List.nil_append] at hS
  obtain ⟨A3, m3, c3, rfl, _, _, _⟩ := (hS.rw_ (k := 0) rfl).anyForm
  refine WL.guardT rfl rfl rfl (lkB rfl (by simp)) ?_
  refine WL.call (args := [.tmp 15, .tmp 18]) cf_28 rfl rfl (equal_c _ _ _ _ _ _ la la _ (ha.no hS.fr) (hS.rw_ (k := 0) rfl).rs) ?_
  rintro _ w ⟨rfl, hF⟩
  refine ⟨_, rfl, ?_⟩
  replace hS := hS.no hF
  refine WL.pv (pv_pick1 (lkB rfl (by simp)) rfl) rfl ?_
  refine WL.pv (pv_move rfl) rfl ?_
  refine WL.guardT rfl rfl rfl (lkB rfl (by simp)) ?_
  refine WL.build1 (v := b8 0) hS slT_22 zeroT_5 rfl rfl rfl rfl ?_
  intro b22 w hb22 hS
  replace hS := hS.toRow (k := 0) (m := 1) (sz := 1) rfl (by simp) (by simp [maxLen])
  simp only [List.set] at hS
  refine WL.guardT rfl rfl rfl (lkB rfl (by simp)) ?_
  refine WL.pv (pv_move rfl) rfl ?_
  refine WL.guardT rfl rfl rfl (lkB rfl (by simp)) ?_
  refine WL.appendL (k := 0) (N := 140737488351233) hS slT_22 zlenT_5 (by decide) rfl rfl rfl (hb.no hS.fr) bs8_one (by simp [bs8_len]; omega) (by omega) (by omega) rfl ?_
  intro A4 c4 w hS
  refine WL.guardT rfl rfl rfl (lkB rfl (by simp)) ?_
  refine WL.pv (pv_move rfl) rfl ?_
  refine WL.guardT rfl rfl rfl (lkB rfl (by simp)) ?_
  refine WL.call (args := [.tmp 24, .tmp 25]) cf_28 rfl rfl (equalNe_c _ _ _ _ _ _ _ (by omega)) ?_
  rintro _ w ⟨rfl, hF⟩
  refine ⟨_, rfl, ?_⟩
  replace hS := hS.no hF
  refine WL.guardT rfl rfl rfl (lkB rfl (by simp)) ?_
  refine WL.pv (pv_not rfl) rfl ?_
  refine WL.pv (pv_pick1 (lkB rfl (by simp)) rfl) rfl ?_
  refine WL.pv (pv_assign rfl) rfl ?_
  refine WL.nil ?_
  refine QN.thenW ?_
  refine WC.ret ?_
  refine QN.ret1 rfl rfl ?_
  exact ⟨rfl, hS.fr⟩

end Go.Proofs.Ytjcebkhhgdgohaa
namespace Go.Proofs.Ytjcebkhhgdgohaa
open Go Go.RowKit Go.Eng


theorem hmac_long (k t : List UInt8) (h : 64 < k.length) : hmacV (shaV k) t = hmacV k t := by
  have e : key0 (shaV k) = key0 k := by rw [key0, key0, if_pos h, if_neg (by rw [shaV_len]; omega)]
  rw [hmacV, hmacV, inP, outP, inP, outP, e]
theorem hmac_pad (k t : List UInt8) (q : Nat) (h : k.length + q ≤ 64) : hmacV (k ++ List.replicate q 0) t = hmacV k t := by
  have e : padK (key0 (k ++ List.replicate q 0)) = padK (key0 k) := by
    rw [key0, key0, if_neg (by simp; omega), if_neg (by omega), padK, padK, List.append_assoc, List.replicate_append_replicate]
    congr 2; simp; omega
  rw [hmacV, hmacV, inP, outP, inP, outP, e]

theorem pv_rem65 {P : Program} {l : Env} {d : Nat} {ty : TypeId} {pos : String} {af : Array Edge} {T U : TypeId} {x y : Operand} {n m q : Nat} (hq : q = n % (65 - m)) (hm : m ≤ 64) (hx : ev l x = some (.int .i64 (n : Int))) (hy : ev l y = some (.int .i64 (65 - (m : Int)))) : PV P l ⟨some d, .binOp .rem T x y U, ty, pos, af, none⟩ (.int .i64 (q : Int)) := by
  subst hq
  rw [show (65 - (m : Int)) = ((65 - m : Nat) : Int) from by omega] at hy
  exact pv_remN hx hy (by omega)

set_option maxRecDepth 100000 in
theorem hmacKeys_c (A B : Option Addr) (m c m2 c2 : Nat) (n : UInt8) (key text : List UInt8) (w0 : World) (hk : Rs w0 (.slice A m c) 1 (bs8 key)) (ht : Rs w0 (.slice B m2 c2) 1 (bs8 text)) : Calls Try.prog 8 #[.slice A m c, .slice B m2 c2, b8 n] w0 fun e w => e = .returned (.bool true) ∧ Fr No w0 w := by
  have hln := hk.len
  rw [bs8_len] at hln
  have hln2 := ht.len
  rw [bs8_len] at hln2
  have hmx : m ≤ 9223372036854775807 := by have := hln; simp only [maxLen] at this; omega
  have hmx2 : m2 ≤ 9223372036854775807 := by have := hln2; simp only [maxLen] at this; omega
  refine calls_of_WC (args := [.slice A m c, .slice B m2 c2, b8 n]) Try.func8 rfl Try.ntmps8 rfl ?_
  show WC _ _ _ _ [(0, .slice A m c), (1, .slice B m2 c2), (2, b8 n)] _
  have hS := ST.start w0 No
  refine WC.seq ?_
  refine WC.region ?_
  refine WL.pv (pv_assign rfl) rfl ?_
  refine WL.nil ?_
  refine QN.thenW ?_
  refine WC.seq ?_
  refine WC.seq ?_
  refine WC.region ?_
  refine WL.call (args := []) cf_25 rfl rfl (wakesH_c _) ?_
  rintro _ w ⟨rfl, hF⟩
  refine ⟨_, rfl, ?_⟩
  replace hS := hS.no hF
  refine WL.pv (pv_not rfl) rfl ?_
  refine WL.nil ?_
  refine QN.thenW ?_
  refine WC.condF rfl rfl ?_
  refine WC.skip ?_
  refine QN.thenW ?_
  refine WC.seq ?_
  refine WC.seq ?_
  by_cases h300 : m ≤ 300
  · skip
    refine WC.region ?_
    refine WL.pv (pv_move rfl) rfl ?_
    refine WL.pv (pv_len slS_22 rfl) rfl ?_
    refine WL.pv (pv_gtr rfl rfl) rfl ?_
    refine WL.pv (pv_move rfl) rfl ?_
    refine WL.guardT rfl rfl rfl (lkF rfl (by omega)) ?_
    refine WL.pv (pv_move rfl) rfl ?_
    refine WL.guardT rfl rfl rfl (lkF rfl (by omega)) ?_
    refine WL.pv (pv_len slS_22 rfl) rfl ?_
    refine WL.guardT rfl rfl rfl (lkF rfl (by omega)) ?_
    refine WL.pv (pv_gtr rfl rfl) rfl ?_
    refine WL.pv (pv_pick0 (lkF rfl (by omega)) rfl) rfl ?_
    refine WL.nil ?_
    refine QN.thenW ?_
    refine WC.condD rfl (fun hc18 => ?_) (fun hc18 => ?_)
    · skip
      refine WC.seq ?_
      refine WC.region ?_
      refine WL.pv (pv_assign rfl) rfl ?_
      refine WL.nil ?_
      refine QN.thenW ?_
      refine WC.ret ?_
      refine QN.thenR ?_
      refine QN.ret1 rfl rfl ?_
      exact ⟨by simp, hS.fr⟩
    · skip
      refine WC.skip ?_
      refine QN.thenW ?_
      refine WC.seq ?_
      refine WC.seq ?_
      refine WC.region ?_
      refine WL.pv (pv_move rfl) rfl ?_
      refine WL.pv (pv_len slS_22 rfl) rfl ?_
      refine WL.pv (pv_gtr rfl rfl) rfl ?_
      refine WL.nil ?_
      refine QN.thenW ?_
      refine WC.condD rfl (fun hc21 => ?_) (fun hc21 => ?_)
      · skip
        refine WC.seq ?_
        refine WC.region ?_
        refine WL.pv (pv_move rfl) rfl ?_
        refine WL.call (args := [.tmp 22]) cf_20 rfl rfl (sum_c A m c key _ (hk.no hS.fr)) ?_
        rintro _ w ⟨rfl, hF⟩
        refine ⟨_, rfl, ?_⟩
        replace hS := hS.no hF
        refine WL.alloc hS zeroT_25 rfl ?_
        intro b7 w hb7 hS
        refine WL.storeAll (k := 0) (vs := bs8 (shaV key)) hS (by rw [sizeT_25, bs8_len, shaV_len]) rfl rfl rfl bs8_one (by simp [bs8_len, shaV_len]) ?_
        intro w hS
        try simp only [List.set] at hS
        refine WL.nil ?_
        refine QN.thenW ?_
        refine WC.seq ?_
        refine WC.region ?_
        refine WL.pv (pv_sliceW arrT_25 rfl) rfl ?_
        refine WL.pv (pv_move rfl) rfl ?_
        refine WL.call (args := [.tmp 24, .tmp 25]) cf_26 rfl rfl (tag_c _ _ _ _ _ _ (shaV key) text _ (Bk.rsAll (hS.bk (k := 0) rfl) (shaV_len _) (by simp [maxLen])) (ht.no hS.fr)) ?_
        rintro _ w ⟨rfl, hF⟩
        refine ⟨_, rfl, ?_⟩
        replace hS := hS.no hF
        rw [hmac_long key text (by omega)]
        refine WL.pv (pv_move rfl) rfl ?_
        refine WL.pv (pv_move rfl) rfl ?_
        refine WL.call (args := [.tmp 27, .tmp 28]) cf_26 rfl rfl (tag_c _ _ _ _ _ _ key text _ (hk.no hS.fr) (ht.no hS.fr)) ?_
        rintro _ w ⟨rfl, hF⟩
        refine ⟨_, rfl, ?_⟩
        replace hS := hS.no hF
        refine WL.pv (pv_eqlA8 Try.underlying25 Try.underlying5 cellsT_5 eqgT_25 rfl rfl (hmacV_len _ _) (hmacV_len _ _)) rfl ?_
        refine WL.pv (pv_assign rfl) rfl ?_
        refine WL.nil ?_
        refine QN.thenW ?_
        refine WC.ret ?_
        refine QN.thenR ?_
        refine QN.ret1 rfl rfl ?_
        exact ⟨by simp, hS.fr⟩
      · skip
        have hq : ∃ q, q = n.toNat % (65 - m) ∧ m + q ≤ 64 := ⟨_, rfl, by have := Nat.mod_lt n.toNat (show 0 < 65 - m by omega); omega⟩
        obtain ⟨q, hqd, hq64⟩ := hq
        refine WC.skip ?_
        refine QN.thenW ?_
        refine WC.seq ?_
        refine WC.draw (S := fun _ => True) (fuel := 11) (listed := #[false, false, false, false, false, false, false, false, false, false, false]) mixedO rfl rfl ?_
        have hS := hS.no (Fr.drew _)
        refine WH.take (listed' := #[false, true, false, false, false, false, false, false, false, false, false]) 1 rfl (by kernel_rfl) (by kernel_rfl) (by kernel_rfl) (fun _ _ _ h => h) rfl (fun w _ => PV.rv (pv_move rfl) w) trivial rfl ?_
        refine WH.take (listed' := #[false, true, false, true, false, false, false, false, false, false, false]) 3 rfl (by kernel_rfl) (by kernel_rfl) (by kernel_rfl) (fun _ _ _ h => h) rfl (fun w _ => PV.rv (pv_move rfl) w) trivial rfl ?_
        refine WH.take (listed' := #[false, true, false, true, true, false, false, false, false, false, false]) 4 rfl (by kernel_rfl) (by kernel_rfl) (by kernel_rfl) (fun _ _ _ h => h) rfl (fun w _ => PV.rv (pv_conv someT_5 Try.underlying3 rfl (cv_8_i _)) w) trivial rfl ?_
        refine WH.take (listed' := #[false, true, false, true, true, true, false, false, false, false, false]) 5 rfl (by kernel_rfl) (by kernel_rfl) (by kernel_rfl) (fun _ _ _ h => h) rfl (fun w _ => PV.rv (pv_move rfl) w) trivial rfl ?_
        refine WH.take (listed' := #[false, true, false, true, true, true, true, false, false, false, false]) 6 rfl (by kernel_rfl) (by kernel_rfl) (by kernel_rfl) (fun _ _ _ h => h) rfl (fun w _ => PV.rv (pv_len slS_22 rfl) w) trivial rfl ?_
        refine WH.take (listed' := #[false, true, false, true, true, true, true, true, false, false, false]) 7 rfl (by kernel_rfl) (by kernel_rfl) (by kernel_rfl) (fun _ _ _ h => h) rfl (fun w _ => PV.rv (pv_sub (a := 65) (b := (m : Int)) rfl rfl (by omega)) w) trivial rfl ?_
        refine WH.take (listed' := #[false, true, false, true, true, true, true, true, true, false, false]) 8 rfl (by kernel_rfl) (by kernel_rfl) (by kernel_rfl) (fun _ _ _ h => h) rfl (fun w _ => PV.rv (pv_rem65 hqd (by omega) rfl rfl) w) trivial rfl ?_
        refine WH.one (listed' := #[true, true, false, true, true, true, true, true, true, false, false]) 0 rfl (by kernel_rfl) rfl ?_
        refine WL.build0 hS slT_22 rfl ?_
        intro r8 w hr8 hS
        refine WL.nil ?_
        refine QN.held trivial ?_
        refine WH.one (listed' := #[true, true, true, true, true, true, true, true, true, false, false]) 2 rfl (by kernel_rfl) rfl ?_
        refine WL.append (k := 0) (N := 65536) hS slT_22 zlenT_5 (by decide) rfl rfl rfl (hk.no hS.fr) bs8_one (by simp [bs8_len]; omega) (by omega) (by simp [maxLen]) rfl ?_
        intro v1 w hFr33 hS
        try simp only [List.set] at hS
        refine WL.nil ?_
        refine QN.held trivial ?_
        refine WH.one (listed' := #[true, true, true, true, true, true, true, true, true, true, false]) 9 rfl (by kernel_rfl) rfl ?_
        refine WL.appendZ (k := 0) (N := 65536) (q := q) hS slT_22 zeroT_5 (by simp) Try.underlying3 (by decide) (by simp [Value.oneCell']) rfl rfl rfl (by simp [bs8_len]; omega) (by omega) (by simp [maxLen]) rfl ?_
        intro v2 w hFr40 hS
        try simp only [List.set] at hS
        rw [List.nil_append, show (List.replicate q [b8 0]).flatten = bs8 (List.replicate q 0) from by simp [bs8], ← bs8_app] at hS
        obtain ⟨A2, m3, c3, rfl, _, _, _⟩ := (hS.rw_ (k := 0) rfl).anyForm
        refine WL.nil ?_
        refine QN.held trivial ?_
        refine WH.take (listed' := #[true, true, true, true, true, true, true, true, true, true, true]) 10 rfl (by kernel_rfl) (by kernel_rfl) (by kernel_rfl) (fun _ _ _ h => h) rfl (fun w _ => PV.rv (pv_assign rfl) w) trivial rfl ?_
        refine WH.done (by kernel_rfl) ?_
        refine QN.thenW ?_
        refine WC.seq ?_
        refine WC.region ?_
        refine WL.pv (pv_move rfl) rfl ?_
        refine WL.pv (pv_move rfl) rfl ?_
        refine WL.call (args := [.tmp 41, .tmp 42]) cf_26 rfl rfl (tag_c _ _ _ _ _ _ (key ++ List.replicate q 0) text _ (hS.rw_ (k := 0) rfl).rs (ht.no hS.fr)) ?_
        rintro _ w ⟨rfl, hF⟩
        refine ⟨_, rfl, ?_⟩
        replace hS := hS.no hF
        rw [hmac_pad key text q (by omega)]
        refine WL.pv (pv_move rfl) rfl ?_
        refine WL.pv (pv_move rfl) rfl ?_
        refine WL.call (args := [.tmp 44, .tmp 45]) cf_26 rfl rfl (tag_c _ _ _ _ _ _ key text _ (hk.no hS.fr) (ht.no hS.fr)) ?_
        rintro _ w ⟨rfl, hF⟩
        refine ⟨_, rfl, ?_⟩
        replace hS := hS.no hF
        refine WL.pv (pv_eqlA8 Try.underlying25 Try.underlying5 cellsT_5 eqgT_25 rfl rfl (hmacV_len _ _) (hmacV_len _ _)) rfl ?_
        refine WL.pv (pv_assign rfl) rfl ?_
        refine WL.nil ?_
        refine QN.thenW ?_
        refine WC.ret ?_
        refine QN.ret1 rfl rfl ?_
        exact ⟨by simp, hS.fr⟩
  · skip
    refine WC.region ?_
    refine WL.pv (pv_move rfl) rfl ?_
    refine WL.pv (pv_len slS_22 rfl) rfl ?_
    refine WL.pv (pv_gtr rfl rfl) rfl ?_
    refine WL.pv (pv_move rfl) rfl ?_
    refine WL.guardF rfl rfl rfl (lkT rfl (by omega)) rfl rfl ?_
    refine WL.guardF rfl rfl rfl (lkT rfl (by omega)) rfl rfl ?_
    refine WL.guardF rfl rfl rfl (lkT rfl (by omega)) rfl rfl ?_
    refine WL.pv (pv_pick1 (lkT rfl (by omega)) rfl) rfl ?_
    refine WL.nil ?_
    refine QN.thenW ?_
    refine WC.condT rfl rfl ?_
    refine WC.seq ?_
    refine WC.region ?_
    refine WL.pv (pv_assign rfl) rfl ?_
    refine WL.nil ?_
    refine QN.thenW ?_
    refine WC.ret ?_
    refine QN.thenR ?_
    refine QN.ret1 rfl rfl ?_
    exact ⟨by simp, hS.fr⟩

end Go.Proofs.Ytjcebkhhgdgohaa
namespace Go.Proofs.Ytjcebkhhgdgohaa
open Go Go.RowKit Go.Eng
theorem cf_65 : callable Try.prog 65 = true := by kernel_rfl
theorem cf_66 : callable Try.prog 66 = true := by kernel_rfl
theorem zeroT_103 : zeroT Try.prog 103 = some ([.slice none 0 0]) := by kernel_rfl

/-- Each text behind its length. -/
def lenL (ls : List (List UInt8)) : List (List UInt8) := ls.flatMap fun t => [beB (UInt64.ofNat t.length) 4, t]
theorem lenL_snoc (ls : List (List UInt8)) (t : List UInt8) : lenL (ls ++ [t]) = lenL ls ++ [beB (UInt64.ofNat t.length) 4] ++ [t] := by simp [lenL]
theorem lenL_len (ls : List (List UInt8)) : (lenL ls).length = 2 * ls.length := by
  induction ls with
  | nil => rfl
  | cons a ls ih => simp [lenL] at ih ⊢; omega
theorem beB4_flat (t : List UInt8) (h : t.length ≤ 300) : (UInt32.ofNat t.length).toUInt64 = UInt64.ofNat t.length := by
  apply UInt64.toNat_inj.1
  rw [UInt32.toNat_toUInt64, UInt32.toNat_ofNat', UInt64.toNat_ofNat']
  omega

theorem flat2_le (ls : List (List UInt8)) (h300 : ∀ j (hj : j < ls.length), (ls[j]).length ≤ 300) (k : Nat) : (lenL (ls.take k)).flatten.length ≤ 304 * ls.length := by
  have key : ∀ l : List (List UInt8), (∀ t ∈ l, t.length ≤ 300) → (lenL l).flatten.length ≤ 304 * l.length := by
    intro l
    induction l with
    | nil => intro _; simp [lenL]
    | cons a l ih =>
      intro h
      have h1 := ih (fun t ht => h t (List.mem_cons_of_mem _ ht))
      have h2 := h a (List.mem_cons_self ..)
      have e : lenL (a :: l) = [beB (UInt64.ofNat a.length) 4, a] ++ lenL l := by simp [lenL]
      have e3 : ([beB (UInt64.ofNat a.length) 4, a] : List (List UInt8)).flatten.length = 4 + a.length := by simp [beB_len]
      rw [e, List.flatten_append, List.length_append, e3, List.length_cons]
      omega
  have h := key (ls.take k) (fun t ht => by
    obtain ⟨j, hj, rfl⟩ := List.getElem_of_mem (List.mem_of_mem_take ht)
    exact h300 j hj)
  have h4 : (ls.take k).length ≤ ls.length := by rw [List.length_take]; omega
  omega

set_option maxHeartbeats 1000000 in
set_option maxRecDepth 100000 in
theorem refTags_c (A B : Option Addr) (m c m2 c2 : Nat) (key : List UInt8) (ls : List (List UInt8)) (w0 : World) (hk : Rs w0 (.slice A m c) 1 (bs8 key)) (hl : RsL w0 (.slice B m2 c2) ls) (hkl : key.length ≤ 9000) (h20 : ls.length ≤ 20) (h300 : ∀ j (hj : j < ls.length), (ls[j]).length ≤ 300) : Calls Try.prog 35 #[.slice A m c, .slice B m2 c2] w0 (KeyPost (hmacV key (lenL ls).flatten) w0) := by
  obtain ⟨vs, hvs, hvl, hall⟩ := hl
  have hln := hvs.len
  have hmx : m2 ≤ 9223372036854775807 := by have := hvs.len; simp only [maxLen] at this; omega
  refine calls_of_WC (args := [.slice A m c, .slice B m2 c2]) Try.func35 rfl Try.ntmps35 rfl ?_
  show WC _ _ _ _ [(0, .slice A m c), (1, .slice B m2 c2)] _
  have hS := ST.start w0 No
  refine WC.seq ?_
  refine WC.region ?_
  refine WL.alloc hS zeroT_25 rfl ?_
  intro b4 w hb4 hS
  replace hS := hS.addNil 5 1
  refine WL.nil ?_
  refine QN.thenW ?_
  refine WC.seq ?_
  refine WC.region ?_
  refine WL.pv (pv_assign rfl) rfl ?_
  refine WL.nil ?_
  refine QN.thenW ?_
  refine WC.seq ?_
  refine WC.seq ?_
  refine WC.region ?_
  refine WL.pv (pv_assign rfl) rfl ?_
  refine WL.nil ?_
  refine QN.thenW ?_
  refine WC.block ?_
  refine WC.loop (α := Nat × Value) (fun s => [(0, .slice A m c), (1, .slice B m2 c2), (4, .pointer (some ⟨b4, 0, none⟩)), (5, s.2), (6, .int .i64 (s.1 : Int))]) (fun s w => s.1 ≤ m2 ∧ ST w0 No w [.row s.2 5 1 (bs8 (lenL (ls.take s.1)).flatten), .blk b4 25 (List.replicate 32 (b8 0))]) (fun s => m2 - s.1) ((0, .slice none 0 0)) (Sub.cons rfl (Sub.cons rfl (Sub.cons rfl (Sub.cons rfl (Sub.cons rfl Sub.nil))))) ⟨by show 0 ≤ m2; omega, hS⟩ ?_
  rintro ⟨k, v⟩ w N hN hR
  change N = m2 - k at hN
  change k ≤ m2 ∧ ST w0 No w [.row v 5 1 (bs8 (lenL (ls.take k)).flatten), .blk b4 25 (List.replicate 32 (b8 0))] at hR
  show WC _ _ _ _ [(0, .slice A m c), (1, .slice B m2 c2), (4, .pointer (some ⟨b4, 0, none⟩)), (5, v), (6, .int .i64 (k : Int))] _
  obtain ⟨hk0, hS⟩ := hR
  refine WC.seq ?_
  refine WC.seq ?_
  refine WC.region ?_
  refine WL.pv (pv_move rfl) rfl ?_
  refine WL.pv (pv_move rfl) rfl ?_
  refine WL.pv (pv_len slS_29 rfl) rfl ?_
  refine WL.pv (pv_lss rfl rfl) rfl ?_
  refine WL.nil ?_
  refine QN.thenW ?_
  refine WC.condD rfl (fun hc10 => ?_) (fun hc10 => ?_)
  · skip
    have hkm : k < m2 := by omega
    obtain ⟨bb, o, rfl, _, hc1, hc2, hcell⟩ := hvs.at_ (by omega)
    have hvk := hall k (by omega) (by omega)
    obtain ⟨A', n', c', hv', _, _, hl', _⟩ := id hvk
    rw [bs8_len, Nat.mul_one] at hl'
    rw [hv'] at hvk
    have hle := flat2_le ls h300 k
    have h3k := h300 k (by omega)
    refine WC.skip ?_
    refine QN.thenW ?_
    refine WC.seq ?_
    refine WC.block ?_
    refine WC.seq ?_
    refine WC.region ?_
    refine WL.pv (pv_move rfl) rfl ?_
    refine WL.pv (pv_move rfl) rfl ?_
    refine WL.pv (pv_move rfl) rfl ?_
    refine WL.pv (pv_indexAddrS1 slT_29 rfl rfl rfl (by omega)) rfl ?_
    refine WL.rv (rv_load oneT_22 rfl (hS.fr.cellS (hcell k _ (by rw [List.getElem?_eq_getElem (by omega), hv'])) (fun h => h))) rfl ?_
    refine WL.pv (pv_len slS_22 rfl) rfl ?_
    refine WL.pv (pv_conv someT_3 Try.underlying86 rfl (cv_i_64 _)) rfl ?_
    refine WL.call (args := [.tmp 19, .const (.int .i64 4)]) cf_61 rfl rfl (beBytes_c _ 4 _ (by omega)) ?_
    rintro _ w ⟨vb, rfl, hF, hRb, _⟩
    refine ⟨_, rfl, ?_⟩
    replace hS := hS.no hF
    refine WL.append (k := 0) (N := 65536) hS slT_22 zlenT_5 (by decide) rfl rfl rfl hRb.rs bs8_one (by rw [bs8_len, bs8_len, beB_len]; omega) (by omega) (by simp [maxLen]) rfl ?_
    intro v1 w hFr21 hS
    try simp only [List.set] at hS
    rw [← bs8_app] at hS
    refine WL.pv (pv_assign rfl) rfl ?_
    refine WL.nil ?_
    refine QN.thenW ?_
    refine WC.region ?_
    refine WL.pv (pv_move rfl) rfl ?_
    refine WL.pv (pv_move rfl) rfl ?_
    refine WL.pv (pv_move rfl) rfl ?_
    refine WL.pv (pv_indexAddrS1 slT_29 rfl rfl rfl (by omega)) rfl ?_
    refine WL.rv (rv_load oneT_22 rfl (hS.fr.cellS (hcell k _ (by rw [List.getElem?_eq_getElem (by omega), hv'])) (fun h => h))) rfl ?_
    refine WL.append (k := 0) (N := 65536) hS slT_22 zlenT_5 (by decide) rfl rfl rfl (hvk.no hS.fr) bs8_one (by rw [bs8_len, bs8_len, List.length_append, beB_len]; omega) (by omega) (by simp [maxLen]) rfl ?_
    intro v2 w hFr27 hS
    try simp only [List.set] at hS
    rw [← bs8_app, ← hl', show (lenL (ls.take k)).flatten ++ beB (UInt64.ofNat (ls[k]'(by omega)).length) 4 ++ ls[k]'(by omega) = (lenL (ls.take (k + 1))).flatten from by
      rw [List.take_succ_eq_append_getElem (by omega), lenL_snoc]; simp] at hS
    refine WL.pv (pv_assign rfl) rfl ?_
    refine WL.nil ?_
    refine QN.blockN ?_
    refine QN.thenW ?_
    refine WC.region ?_
    refine WL.pv (pv_move rfl) rfl ?_
    refine WL.pv (pv_add rfl rfl (by omega)) rfl ?_
    refine WL.pv (pv_assign rfl) rfl ?_
    refine WL.nil ?_
    refine QN.roundE ?_
    refine ⟨((k + 1, v2)), (Sub.cons rfl (Sub.cons rfl (Sub.cons rfl (Sub.cons rfl (Sub.cons rfl Sub.nil))))), ⟨by show k + 1 ≤ m2; omega, hS⟩, ?_⟩
    first | omega | (dsimp only; omega)
  · skip
    obtain rfl : k = m2 := by omega
    have e2 : ls.take k = ls := List.take_of_length_le (by omega)
    rw [e2] at hS
    have hle := flat2_le ls h300 k
    rw [e2] at hle
    obtain ⟨A5, m5, c5, rfl, _, _, _⟩ := (hS.rw_ (k := 0) rfl).anyForm
    refine WC.exit ?_
    refine QN.thenX ?_
    refine QN.thenX ?_
    refine QN.blockX ?_
    refine QN.thenW ?_
    refine WC.seq ?_
    refine WC.region ?_
    refine WL.pv (pv_move rfl) rfl ?_
    refine WL.pv (pv_move rfl) rfl ?_
    refine WL.call (args := [.tmp 28, .tmp 29]) cf_27 rfl rfl (refTag_c _ _ _ _ _ _ key _ _ (hk.no hS.fr) (hS.rw_ (k := 0) rfl).rs hkl (by omega)) ?_
    rintro _ w ⟨rfl, hF⟩
    refine ⟨_, rfl, ?_⟩
    replace hS := hS.no hF
    refine WL.storeAll (k := 1) (vs := bs8 (hmacV key (lenL ls).flatten)) hS (by rw [sizeT_25, bs8_len, hmacV_len]) rfl rfl rfl bs8_one (by simp [bs8_len, hmacV_len]) ?_
    intro w hS
    try simp only [List.set] at hS
    refine WL.nil ?_
    refine QN.thenW ?_
    refine WC.ret ?_
    refine QN.retK (k := 1) rfl rfl hS rfl (by rw [aggT_25, bs8_len, hmacV_len]) ?_
    exact ⟨rfl, hS.fr⟩

theorem wid4 (t : List UInt8) (h : t.length ≤ 300) : widN ((UInt32.ofNat t.length).toUInt64).toNat ≤ 4 := widN_le (by omega) (by rw [beB4_flat t h, UInt64.toNat_ofNat']; simp; omega)

set_option maxHeartbeats 1000000 in
set_option maxRecDepth 100000 in
theorem tags_c (A B : Option Addr) (m c m2 c2 : Nat) (key : List UInt8) (ls : List (List UInt8)) (w0 : World) (hk : Rs w0 (.slice A m c) 1 (bs8 key)) (hl : RsL w0 (.slice B m2 c2) ls) (h20 : ls.length ≤ 20) (h300 : ∀ j (hj : j < ls.length), (ls[j]).length ≤ 300) : Calls Try.prog 34 #[.slice A m c, .slice B m2 c2] w0 (KeyPost (hmacV key (lenL ls).flatten) w0) := by
  obtain ⟨vs, hvs, hvl, hall⟩ := hl
  have hln := hvs.len
  have hmx : m2 ≤ 9223372036854775807 := by have := hvs.len; simp only [maxLen] at this; omega
  refine calls_of_WC (args := [.slice A m c, .slice B m2 c2]) Try.func34 rfl Try.ntmps34 rfl ?_
  show WC _ _ _ _ [(0, .slice A m c), (1, .slice B m2 c2)] _
  have hS := ST.start w0 No
  refine WC.seq ?_
  refine WC.region ?_
  refine WL.alloc hS zeroT_25 rfl ?_
  intro b4 w hb4 hS
  replace hS := hS.addNil 22 1
  refine WL.nil ?_
  refine QN.thenW ?_
  refine WC.seq ?_
  refine WC.region ?_
  refine WL.pv (pv_assign rfl) rfl ?_
  refine WL.nil ?_
  refine QN.thenW ?_
  refine WC.seq ?_
  refine WC.seq ?_
  refine WC.region ?_
  refine WL.pv (pv_move rfl) rfl ?_
  refine WL.pv (pv_len slS_29 rfl) rfl ?_
  refine WL.pv (pv_move rfl) rfl ?_
  refine WL.nil ?_
  refine QN.thenW ?_
  refine WC.block ?_
  refine WC.loop (α := Nat × Value × List Value) (fun s => [(0, .slice A m c), (1, .slice B m2 c2), (4, .pointer (some ⟨b4, 0, none⟩)), (5, s.2.1), (12, .slice B m2 c2), (13, .int .i64 (m2 : Int)), (14, .int .i64 (s.1 : Int))]) (fun s w => s.1 ≤ m2 ∧ Els w (Ours [.row s.2.1 22 1 s.2.2, .blk b4 25 (List.replicate 32 (b8 0))]) s.2.2 (lenL (ls.take s.1)) ∧ ST w0 No w [.row s.2.1 22 1 s.2.2, .blk b4 25 (List.replicate 32 (b8 0))]) (fun s => m2 - s.1) ((0, .slice none 0 0, [])) (Sub.cons rfl (Sub.cons rfl (Sub.cons rfl (Sub.cons rfl (Sub.cons rfl (Sub.cons rfl (Sub.cons rfl Sub.nil))))))) ⟨by show 0 ≤ m2; omega, Els.nil, hS⟩ ?_
  rintro ⟨k, v, cells⟩ w N hN hR
  change N = m2 - k at hN
  change k ≤ m2 ∧ Els w (Ours [.row v 22 1 cells, .blk b4 25 (List.replicate 32 (b8 0))]) cells (lenL (ls.take k)) ∧ ST w0 No w [.row v 22 1 cells, .blk b4 25 (List.replicate 32 (b8 0))] at hR
  show WC _ _ _ _ [(0, .slice A m c), (1, .slice B m2 c2), (4, .pointer (some ⟨b4, 0, none⟩)), (5, v), (12, .slice B m2 c2), (13, .int .i64 (m2 : Int)), (14, .int .i64 (k : Int))] _
  obtain ⟨hk0, hE, hS⟩ := hR
  refine WC.seq ?_
  refine WC.region ?_
  refine WL.pv (pv_lss rfl rfl) rfl ?_
  refine WL.nil ?_
  refine QN.thenW ?_
  refine WC.seq ?_
  refine WC.condD rfl (fun hc15 => ?_) (fun hc15 => ?_)
  · skip
    have hkm : k < m2 := by omega
    obtain ⟨bb, o, rfl, _, hc1, hc2, hcell⟩ := hvs.at_ (by omega)
    have hvk := hall k (by omega) (by omega)
    obtain ⟨A', n', c', hv', _, _, hl', _⟩ := id hvk
    rw [bs8_len, Nat.mul_one] at hl'
    rw [hv'] at hvk
    have h3k := h300 k (by omega)
    have hcl := hE.1
    rw [lenL_len, List.length_take] at hcl
    have hO := hS
    replace hS := hO.base
    refine WC.skip ?_
    refine QN.thenW ?_
    refine WC.seq ?_
    refine WC.block ?_
    refine WC.seq ?_
    refine WC.region ?_
    refine WL.pv (pv_indexAddrS1 slT_29 rfl rfl rfl (by omega)) rfl ?_
    refine WL.rv (rv_load oneT_22 rfl (hO.fr.cellS (hcell k _ (by rw [List.getElem?_eq_getElem (by omega), hv'])) (fun h => h))) rfl ?_
    refine WL.pv (pv_assign rfl) rfl ?_
    refine WL.nil ?_
    refine QN.thenW ?_
    refine WC.seq ?_
    refine WC.region ?_
    refine WL.alloc hS zeroT_103 rfl ?_
    intro bw w hbw hS
    replace hS := hS.addNil 5 1
    refine WL.nil ?_
    refine QN.thenW ?_
    refine WC.seq ?_
    refine WC.region ?_
    refine WL.pv (pv_move rfl) rfl ?_
    refine WL.pv (pv_len slS_22 rfl) rfl ?_
    refine WL.pv (pv_conv someT_3 Try.underlying91 rfl (cv_i_32 n')) rfl ?_
    refine WL.pv (pv_conv someT_91 Try.underlying86 rfl (cv_32_64 _)) rfl ?_
    refine WL.call (args := [.tmp 8, .tmp 21, .const (.int .i64 4)]) cf_65 rfl rfl (num_c bw (.slice none 0 0) [] (UInt32.ofNat n').toUInt64 4 _ (hS.bk (k := 1) rfl) (hS.rw_ (k := 0) rfl) (by omega) (by omega) (by rw [← hl']; exact wid4 _ h3k) (by simp)) ?_
    rintro _ w ⟨rfl, hF, v1, hB, hR1, ho⟩
    refine ⟨_, rfl, ?_⟩
    replace hS := hS.upd2 (i := 1) (j := 0) rfl rfl hF hB hR1 ho
    simp only [List.set] at hS
    refine WL.nil ?_
    refine QN.thenW ?_
    refine WC.region ?_
    refine WL.pv (pv_move rfl) rfl ?_
    refine WL.call (args := [.tmp 8]) cf_66 rfl rfl (out_c bw v1 _ _ (hS.bk (k := 1) rfl) (hS.rw_ (k := 0) rfl) (by simp [beB_len])) ?_
    rintro _ w ⟨vb, rfl, hF, hRb, hfb⟩
    refine ⟨_, rfl, ?_⟩
    replace hS := hS.add (e := .row vb 5 1 _) hF hRb hfb
    rw [List.nil_append, ← hl', beB4_flat _ h3k] at hS hRb
    obtain ⟨gb, mb, cb, rfl, _, _, _⟩ := hRb.form8 (by rw [beB_len]; omega)
    refine WL.pv (pv_move rfl) rfl ?_
    refine WL.build2 hS slT_29 zeroT_22 rfl rfl rfl rfl rfl rfl ?_
    intro b26 w hb26 hS
    refine WL.append (k := 4) (N := 65536) hS slT_29 zlenT_22 (by decide) rfl rfl rfl ((hS.bk (k := 0) rfl).rs 0 2 2 1 (by omega) (by simp [maxLen]) (by simp)) (by simp [Value.oneCell']) (by simp; omega) (by omega) (by simp [maxLen]) rfl ?_
    intro v2 w hFr27 hS
    try simp only [List.set] at hS
    have hSv := ((hS.erase 0).erase 1).erase 1
    simp only [List.eraseIdx_zero, List.eraseIdx_cons_succ, List.tail_cons] at hSv
    have hS3 := hSv.drop
    have hE3 := hE.step hS3
    have hS4 := hO.rebase hS3
    have hE4 := hE3.add (hSv.rw_ (k := 0) rfl).rs (fun _ b hb hN => by
      obtain ⟨e, he, hbe⟩ := hN
      simp only [List.mem_cons, List.not_mem_nil, or_false] at he
      rcases he with rfl | rfl
      · exact hSv.apart (i := 0) (j := 1) rfl rfl (by omega) hb hbe
      · exact hSv.apart (i := 0) (j := 2) rfl rfl (by omega) hb hbe)
    have hE5 := hE4.add ((hvk.no hO.fr).frN hS3.fr (fun h0 b hb => hO.notOurs hvk h0 hb)) (fun h0 b hb => hS4.notOurs hvk (by rw [bs8_len]; exact h0) hb)
    rw [List.append_assoc cells, ← lenL_snoc, ← List.take_succ_eq_append_getElem (by omega)] at hE5
    clear hS
    have hS := hS4
    refine WL.pv (pv_assign rfl) rfl ?_
    refine WL.nil ?_
    refine QN.blockN ?_
    refine QN.thenW ?_
    refine WC.region ?_
    refine WL.pv (pv_add rfl rfl (by omega)) rfl ?_
    refine WL.pv (pv_move rfl) rfl ?_
    refine WL.nil ?_
    refine QN.roundE ?_
    refine ⟨((k + 1, v2, _)), (Sub.cons rfl (Sub.cons rfl (Sub.cons rfl (Sub.cons rfl (Sub.cons rfl (Sub.cons rfl (Sub.cons rfl Sub.nil))))))), ⟨by show k + 1 ≤ m2; omega, hE5, hS⟩, ?_⟩
    first | omega | (dsimp only; omega)
  · skip
    obtain rfl : k = m2 := by omega
    have e2 : ls.take k = ls := List.take_of_length_le (by omega)
    rw [e2] at hE
    have hcl := hE.1
    rw [lenL_len] at hcl
    obtain ⟨A5, m5, c5, rfl, hm5, _, _⟩ := (hS.rw_ (k := 0) rfl).anyForm
    have hO := hS
    replace hS := hO.base
    have hil := inP_len key
    have hol := outP_len key
    refine WC.exit ?_
    refine QN.thenX ?_
    refine QN.thenX ?_
    refine QN.blockX ?_
    refine QN.thenW ?_
    refine WC.seq ?_
    refine WC.region ?_
    refine WL.pv (pv_move rfl) rfl ?_
    refine WL.call (args := [.tmp 30]) cf_62 rfl rfl (pads_c A m c key _ (hk.no hO.fr)) ?_
    rintro _ w ⟨rfl, hF⟩
    refine ⟨_, rfl, ?_⟩
    replace hS := hS.no hF
    refine WL.pv (pv_move rfl) rfl ?_
    refine WL.pv (pv_extract rfl rfl) rfl ?_
    refine WL.pv (pv_extract rfl rfl) rfl ?_
    refine WL.alloc hS zeroT_97 rfl ?_
    intro b9 w hb9 hS
    refine WL.alloc hS zeroT_97 rfl ?_
    intro b10 w hb10 hS
    refine WL.storeAll (k := 1) (vs := bs8 (inP key)) hS (by rw [sizeT_97, bs8_len, hil]) rfl rfl rfl bs8_one (by rw [bs8_len, hil]; simp) ?_
    intro w hS
    try simp only [List.set] at hS
    refine WL.storeAll (k := 0) (vs := bs8 (outP key)) hS (by rw [sizeT_97, bs8_len, hol]) rfl rfl rfl bs8_one (by rw [bs8_len, hol]; simp) ?_
    intro w hS
    try simp only [List.set] at hS
    refine WL.nil ?_
    refine QN.thenW ?_
    refine WC.seq ?_
    refine WC.region ?_
    refine WL.pv (pv_sliceW arrT_97 rfl) rfl ?_
    refine WL.build1 hS slT_29 zeroT_22 rfl rfl rfl rfl ?_
    intro b35 w hb35 hS
    replace hS := hS.toRow (k := 0) (m := 1) (sz := 1) rfl (by simp) (by simp [maxLen])
    simp only [List.set] at hS
    refine WL.pv (pv_move rfl) rfl ?_
    refine WL.append (k := 0) (N := 65536) hS slT_29 zlenT_22 (by decide) rfl rfl rfl (hS.rw_ (k := 3) rfl).rs hE.one (by simp; omega) (by omega) (by simp [maxLen]) rfl ?_
    intro v6 w hFr37 hS
    try simp only [List.set] at hS
    obtain ⟨A6, m6, c6, rfl, _, _, _⟩ := (hS.rw_ (k := 0) rfl).anyForm
    have hE6 := hE.step hS
    have hL : RsL w (.slice A6 m6 c6) ([inP key] ++ lenL ls) := ⟨_, (hS.rw_ (k := 0) rfl).rs, by simp [hcl, lenL_len], fun i hi hj => by
      rcases i with _ | i
      · exact Bk.rsAll (hS.bk (k := 2) rfl) hil (by simp [maxLen])
      · exact (hE6.2 i _ _).1⟩
    refine WL.call (args := [.tmp 37]) cf_23 rfl rfl (sums_c _ _ _ _ _ hL) ?_
    rintro _ w ⟨rfl, hF⟩
    refine ⟨_, rfl, ?_⟩
    replace hS := hS.no hF
    rw [show ([inP key] ++ lenL ls).flatten = inP key ++ (lenL ls).flatten from by simp]
    refine WL.alloc hS zeroT_25 rfl ?_
    intro b11 w hb11 hS
    refine WL.storeAll (k := 0) (vs := bs8 (shaV (inP key ++ (lenL ls).flatten))) hS (by rw [sizeT_25, bs8_len, shaV_len]) rfl rfl rfl bs8_one (by simp [bs8_len, shaV_len]) ?_
    intro w hS
    try simp only [List.set] at hS
    refine WL.nil ?_
    refine QN.thenW ?_
    refine WC.seq ?_
    refine WC.draw (S := fun _ => True) (fuel := 5) (listed := #[false, false, false, false, false]) mixedO rfl rfl ?_
    have hS := hS.no (Fr.drew _)
    refine WH.take (listed' := #[true, false, false, false, false]) 0 rfl (by kernel_rfl) (by kernel_rfl) (by kernel_rfl) (fun _ _ _ h => h) rfl (fun w _ => PV.rv (pv_sliceW arrT_97 rfl) w) trivial rfl ?_
    refine WH.take (listed' := #[true, true, false, false, false]) 1 rfl (by kernel_rfl) (by kernel_rfl) (by kernel_rfl) (fun _ _ _ h => h) rfl (fun w _ => PV.rv (pv_sliceW arrT_25 rfl) w) trivial rfl ?_
    refine WH.one (listed' := #[true, true, true, false, false]) 2 rfl (by kernel_rfl) rfl ?_
    refine WL.build2 hS slT_29 zeroT_22 rfl rfl rfl rfl rfl rfl ?_
    intro b41 w hb41 hS
    refine WL.nil ?_
    refine QN.held trivial ?_
    refine WH.one (listed' := #[true, true, true, true, false]) 3 rfl (by kernel_rfl) rfl ?_
    refine WL.call (args := [.tmp 41]) cf_23 rfl rfl (sums_c _ 2 2 [outP key, shaV (inP key ++ (lenL ls).flatten)] _ (RsL.two ((hS.bk (k := 0) rfl).rs 0 2 2 1 (by omega) (by simp [maxLen]) (by simp)) (Bk.rsAll (hS.bk (k := 3) rfl) hol (by simp [maxLen])) (Bk.rsAll (hS.bk (k := 1) rfl) (shaV_len _) (by simp [maxLen])))) ?_
    rintro _ w ⟨rfl, hF⟩
    refine ⟨_, rfl, ?_⟩
    replace hS := hS.no hF
    rw [show [outP key, shaV (inP key ++ (lenL ls).flatten)].flatten = outP key ++ shaV (inP key ++ (lenL ls).flatten) from by simp]
    refine WL.nil ?_
    refine QN.held trivial ?_
    refine WH.one (listed' := #[true, true, true, true, true]) 4 rfl (by kernel_rfl) rfl ?_
    refine WL.storeAll (k := 6) (vs := bs8 (hmacV key (lenL ls).flatten)) hS (by rw [sizeT_25, bs8_len, hmacV_len]) rfl rfl rfl bs8_one (by simp [bs8_len, hmacV_len]) ?_
    intro w hS
    try simp only [List.set] at hS
    refine WL.nil ?_
    refine QN.held trivial ?_
    refine WH.done (by kernel_rfl) ?_
    refine QN.thenW ?_
    refine WC.ret ?_
    refine QN.retK (k := 6) rfl rfl hS rfl (by rw [aggT_25, bs8_len, hmacV_len]) ?_
    exact ⟨rfl, (hO.rebase hS).fr⟩

end Go.Proofs.Ytjcebkhhgdgohaa
namespace Go.Proofs.Ytjcebkhhgdgohaa
open Go Go.RowKit Go.Eng
theorem cf_34 : callable Try.prog 34 = true := by kernel_rfl
theorem cf_35 : callable Try.prog 35 = true := by kernel_rfl
set_option maxRecDepth 100000 in
theorem hmacTags_c (A B : Option Addr) (m c m2 c2 : Nat) (key : List UInt8) (ls : List (List UInt8)) (w0 : World) (hk : Rs w0 (.slice A m c) 1 (bs8 key)) (hl : RsL w0 (.slice B m2 c2) ls) : Calls Try.prog 12 #[.slice A m c, .slice B m2 c2] w0 fun e w => e = .returned (.bool true) ∧ Fr No w0 w := by
  have hlk := hk.len
  rw [bs8_len] at hlk
  obtain ⟨vs, hvs, hvl, hall⟩ := hl
  have hln := hvs.len
  have hmx : m ≤ 9223372036854775807 := by have := hlk; simp only [maxLen] at this; omega
  have hmx2 : m2 ≤ 9223372036854775807 := by have := hvs.len; simp only [maxLen] at this; omega
  refine calls_of_WC (args := [.slice A m c, .slice B m2 c2]) Try.func12 rfl Try.ntmps12 rfl ?_
  show WC _ _ _ _ [(0, .slice A m c), (1, .slice B m2 c2)] _
  have hS := ST.start w0 No
  refine WC.seq ?_
  refine WC.region ?_
  refine WL.pv (pv_assign rfl) rfl ?_
  refine WL.nil ?_
  refine QN.thenW ?_
  refine WC.seq ?_
  refine WC.seq ?_
  refine WC.region ?_
  refine WL.call (args := []) cf_25 rfl rfl (wakesH_c _) ?_
  rintro _ w ⟨rfl, hF⟩
  refine ⟨_, rfl, ?_⟩
  replace hS := hS.no hF
  refine WL.pv (pv_not rfl) rfl ?_
  refine WL.nil ?_
  refine QN.thenW ?_
  refine WC.condF rfl rfl ?_
  refine WC.skip ?_
  refine QN.thenW ?_
  refine WC.seq ?_
  refine WC.seq ?_
  by_cases h300 : m ≤ 300
  · skip
    refine WC.region ?_
    refine WL.pv (pv_move rfl) rfl ?_
    refine WL.pv (pv_len slS_22 rfl) rfl ?_
    refine WL.pv (pv_gtr rfl rfl) rfl ?_
    refine WL.pv (pv_move rfl) rfl ?_
    refine WL.guardT rfl rfl rfl (lkF rfl (by omega)) ?_
    refine WL.pv (pv_move rfl) rfl ?_
    refine WL.guardT rfl rfl rfl (lkF rfl (by omega)) ?_
    refine WL.pv (pv_len slS_29 rfl) rfl ?_
    refine WL.guardT rfl rfl rfl (lkF rfl (by omega)) ?_
    refine WL.pv (pv_gtr rfl rfl) rfl ?_
    refine WL.pv (pv_pick0 (lkF rfl (by omega)) rfl) rfl ?_
    refine WL.nil ?_
    refine QN.thenW ?_
    refine WC.condD rfl (fun hc15 => ?_) (fun hc15 => ?_)
    · skip
      refine WC.seq ?_
      refine WC.region ?_
      refine WL.pv (pv_assign rfl) rfl ?_
      refine WL.nil ?_
      refine QN.thenW ?_
      refine WC.ret ?_
      refine QN.thenR ?_
      refine QN.ret1 rfl rfl ?_
      exact ⟨by simp, hS.fr⟩
    · skip
      have h20 : m2 ≤ 20 := by omega
      refine WC.skip ?_
      refine QN.thenW ?_
      refine WC.seq ?_
      refine WC.seq ?_
      refine WC.region ?_
      refine WL.pv (pv_move rfl) rfl ?_
      refine WL.pv (pv_len slS_29 rfl) rfl ?_
      refine WL.pv (pv_move rfl) rfl ?_
      refine WL.nil ?_
      refine QN.thenW ?_
      refine WC.block ?_
      refine WC.loop (α := Nat) (fun k => [(0, .slice A m c), (1, .slice B m2 c2), (17, .int .i64 (m2 : Int)), (18, .int .i64 (k : Int))]) (fun k w => k ≤ m2 ∧ (∀ j (hj : j < ls.length), j < k → (ls[j]).length ≤ 300) ∧ ST w0 No w []) (fun k => m2 - k) (0) (Sub.cons rfl (Sub.cons rfl (Sub.cons rfl (Sub.cons rfl Sub.nil)))) ⟨by omega, fun j hj h => by omega, hS⟩ ?_
      rintro k w N hN hR
      obtain ⟨hk0, hall3, hS⟩ := hR
      refine WC.seq ?_
      refine WC.region ?_
      refine WL.pv (pv_lss rfl rfl) rfl ?_
      refine WL.nil ?_
      refine QN.thenW ?_
      refine WC.seq ?_
      refine WC.condD rfl (fun hc19 => ?_) (fun hc19 => ?_)
      · skip
        have hkm : k < m2 := by omega
        obtain ⟨bb, o, rfl, _, hc1, hc2, hcell⟩ := hvs.at_ (by omega)
        have hvk := hall k (by omega) (by omega)
        obtain ⟨A', n', c', hv', _, _, hl', _⟩ := id hvk
        rw [bs8_len, Nat.mul_one] at hl' 
        refine WC.skip ?_
        refine QN.thenW ?_
        refine WC.seq ?_
        refine WC.block ?_
        refine WC.seq ?_
        refine WC.region ?_
        refine WL.pv (pv_move rfl) rfl ?_
        refine WL.pv (pv_assign rfl) rfl ?_
        refine WL.nil ?_
        refine QN.thenW ?_
        refine WC.seq ?_
        refine WC.region ?_
        refine WL.pv (pv_move rfl) rfl ?_
        refine WL.pv (pv_move rfl) rfl ?_
        refine WL.pv (pv_indexAddrS1 slT_29 rfl rfl rfl (by omega)) rfl ?_
        refine WL.rv (rv_load oneT_22 rfl (hS.fr.cellS (hcell k _ (by rw [List.getElem?_eq_getElem (by omega), hv'])) (fun h => h))) rfl ?_
        refine WL.pv (pv_len slS_22 rfl) rfl ?_
        refine WL.pv (pv_gtr rfl rfl) rfl ?_
        refine WL.nil ?_
        refine QN.thenW ?_
        refine WC.condD rfl (fun hc26 => ?_) (fun hc26 => ?_)
        · skip
          refine WC.seq ?_
          refine WC.region ?_
          refine WL.pv (pv_assign rfl) rfl ?_
          refine WL.nil ?_
          refine QN.thenW ?_
          refine WC.ret ?_
          refine QN.blockR ?_
          refine QN.thenR ?_
          refine QN.thenR ?_
          refine QN.blockR ?_
          refine QN.thenR ?_
          refine QN.ret1 rfl rfl ?_
          exact ⟨by simp, hS.fr⟩
        · skip
          refine WC.skip ?_
          refine QN.blockN ?_
          refine QN.thenW ?_
          refine WC.region ?_
          refine WL.pv (pv_add rfl rfl (by omega)) rfl ?_
          refine WL.pv (pv_move rfl) rfl ?_
          refine WL.nil ?_
          refine QN.roundE ?_
          refine ⟨(k + 1), (Sub.cons rfl (Sub.cons rfl (Sub.cons rfl (Sub.cons rfl Sub.nil)))), ⟨by omega, fun j hj h => by
  by_cases hjk : j = k
  · subst hjk; omega
  · exact hall3 j hj (by omega), hS⟩, ?_⟩
          first | omega | (dsimp only; omega)
      · skip
        obtain rfl : k = m2 := by omega
        refine WC.exit ?_
        refine QN.thenX ?_
        refine QN.thenX ?_
        refine QN.blockX ?_
        refine QN.thenW ?_
        refine WC.seq ?_
        refine WC.region ?_
        refine WL.pv (pv_move rfl) rfl ?_
        refine WL.pv (pv_move rfl) rfl ?_
        refine WL.call (args := [.tmp 28, .tmp 29]) cf_34 rfl rfl (tags_c _ _ _ _ _ _ key ls _ (hk.no hS.fr) (RsL.fr ⟨vs, hvs, hvl, hall⟩ hS.fr (fun _ _ h => h)) (by omega) (fun j hj => hall3 j hj (by omega))) ?_
        rintro _ w ⟨rfl, hF⟩
        refine ⟨_, rfl, ?_⟩
        replace hS := hS.no hF
        refine WL.pv (pv_move rfl) rfl ?_
        refine WL.pv (pv_move rfl) rfl ?_
        refine WL.call (args := [.tmp 31, .tmp 32]) cf_35 rfl rfl (refTags_c _ _ _ _ _ _ key ls _ (hk.no hS.fr) (RsL.fr ⟨vs, hvs, hvl, hall⟩ hS.fr (fun _ _ h => h)) (by omega) (by omega) (fun j hj => hall3 j hj (by omega))) ?_
        rintro _ w ⟨rfl, hF⟩
        refine ⟨_, rfl, ?_⟩
        replace hS := hS.no hF
        refine WL.pv (pv_eqlA8 Try.underlying25 Try.underlying5 cellsT_5 eqgT_25 rfl rfl (hmacV_len _ _) (hmacV_len _ _)) rfl ?_
        refine WL.pv (pv_assign rfl) rfl ?_
        refine WL.nil ?_
        refine QN.thenW ?_
        refine WC.ret ?_
        refine QN.ret1 rfl rfl ?_
        exact ⟨by simp, hS.fr⟩
  · skip
    refine WC.region ?_
    refine WL.pv (pv_move rfl) rfl ?_
    refine WL.pv (pv_len slS_22 rfl) rfl ?_
    refine WL.pv (pv_gtr rfl rfl) rfl ?_
    refine WL.pv (pv_move rfl) rfl ?_
    refine WL.guardF rfl rfl rfl (lkT rfl (by omega)) rfl rfl ?_
    refine WL.guardF rfl rfl rfl (lkT rfl (by omega)) rfl rfl ?_
    refine WL.guardF rfl rfl rfl (lkT rfl (by omega)) rfl rfl ?_
    refine WL.pv (pv_pick1 (lkT rfl (by omega)) rfl) rfl ?_
    refine WL.nil ?_
    refine QN.thenW ?_
    refine WC.condT rfl rfl ?_
    refine WC.seq ?_
    refine WC.region ?_
    refine WL.pv (pv_assign rfl) rfl ?_
    refine WL.nil ?_
    refine QN.thenW ?_
    refine WC.ret ?_
    refine QN.thenR ?_
    refine QN.ret1 rfl rfl ?_
    exact ⟨by simp, hS.fr⟩

end Go.Proofs.Ytjcebkhhgdgohaa
