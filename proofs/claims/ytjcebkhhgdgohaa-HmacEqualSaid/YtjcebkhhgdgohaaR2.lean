/- What a few functions of the program compute, part R2. -/
import Derived.Test.YtjcebkhhgdgohaaR1
namespace Go.Proofs.Ytjcebkhhgdgohaa
open Go Go.RowKit Go.Eng


theorem take_eq_succ {a b : List UInt8} {k : Nat} (ha : k < a.length) (hb : k < b.length) (h : a.take k = b.take k) (h2 : a[k] = b[k]) : a.take (k + 1) = b.take (k + 1) := by
  rw [List.take_succ_eq_append_getElem ha, List.take_succ_eq_append_getElem hb, h, h2]

set_option maxRecDepth 100000 in
theorem same_c (A B : Option Addr) (m c m2 c2 : Nat) (la lb : List UInt8) (w0 : World) (ha : Rs w0 (.slice A m c) 1 (bs8 la)) (hb : Rs w0 (.slice B m2 c2) 1 (bs8 lb)) :
    Calls Try.prog 22 #[.slice A m c, .slice B m2 c2] w0 fun e w => e = .returned (.bool (decide (la = lb))) ∧ Fr No w0 w := by
  have hln := ha.len
  rw [bs8_len] at hln
  have hln2 := hb.len
  rw [bs8_len] at hln2
  have hmx : m ≤ 9223372036854775807 := by have := hln; simp only [maxLen] at this; omega
  have hmx2 : m2 ≤ 9223372036854775807 := by have := hln2; simp only [maxLen] at this; omega
  refine calls_of_WC (args := [.slice A m c, .slice B m2 c2]) Try.func22 rfl Try.ntmps22 rfl ?_
  show WC _ _ _ _ [(0, .slice A m c), (1, .slice B m2 c2)] _
  have hS := ST.start w0 No
  refine WC.seq ?_
  refine WC.region ?_
  refine WL.pv (pv_assign rfl) rfl ?_
  refine WL.nil ?_
  refine QN.thenW ?_
  refine WC.seq ?_
  refine WC.seq ?_
  refine WC.region ?_
  refine WL.pv (pv_move rfl) rfl ?_
  refine WL.pv (pv_len slS_22 rfl) rfl ?_
  refine WL.pv (pv_move rfl) rfl ?_
  refine WL.pv (pv_len slS_22 rfl) rfl ?_
  refine WL.pv (pv_neq rfl rfl) rfl ?_
  refine WL.nil ?_
  refine QN.thenW ?_
  refine WC.condD rfl (fun hc10 => ?_) (fun hc10 => ?_)
  · skip
    have hne : ¬ la = lb := fun h => by subst h; omega
    refine WC.seq ?_
    refine WC.region ?_
    refine WL.pv (pv_assign rfl) rfl ?_
    refine WL.nil ?_
    refine QN.thenW ?_
    refine WC.ret ?_
    refine QN.thenR ?_
    refine QN.ret1 rfl rfl ?_
    first
    | exact ⟨by rw [decide_eq_false hne], hS.fr⟩
    | exact ⟨by rw [decide_eq_true heq], hS.fr⟩
  · skip
    obtain rfl : m = m2 := by omega
    refine WC.skip ?_
    refine QN.thenW ?_
    refine WC.seq ?_
    refine WC.seq ?_
    refine WC.region ?_
    refine WL.pv (pv_assign rfl) rfl ?_
    refine WL.nil ?_
    refine QN.thenW ?_
    refine WC.block ?_
    refine WC.loop (α := Nat) (fun k => [(0, .slice A m c), (1, .slice B m c2), (5, .int .i64 (k : Int))]) (fun k w => k ≤ m ∧ la.take k = lb.take k ∧ ST w0 No w []) (fun k => m - k) (0) (Sub.cons rfl (Sub.cons rfl (Sub.cons rfl Sub.nil))) ⟨by omega, rfl, hS⟩ ?_
    rintro k w N hN hR
    obtain ⟨hk, htk, hS⟩ := hR
    refine WC.seq ?_
    refine WC.seq ?_
    refine WC.region ?_
    refine WL.pv (pv_move rfl) rfl ?_
    refine WL.pv (pv_move rfl) rfl ?_
    refine WL.pv (pv_len slS_22 rfl) rfl ?_
    refine WL.pv (pv_lss rfl rfl) rfl ?_
    refine WL.nil ?_
    refine QN.thenW ?_
    refine WC.condD rfl (fun hc14 => ?_) (fun hc14 => ?_)
    · skip
      have hkm : k < m := by omega
      obtain ⟨b1, o1, rfl, hl, hc1, hc2, hcell⟩ := ha.at_ (by rw [bs8_len]; omega)
      obtain ⟨b2, o2, rfl, hl', hc1', hc2', hcell'⟩ := hb.at_ (by rw [bs8_len]; omega)
      rw [bs8_len] at hl hl' 
      refine WC.skip ?_
      refine QN.thenW ?_
      refine WC.seq ?_
      refine WC.block ?_
      refine WC.seq ?_
      refine WC.still mixedO (by kernel_rfl) ?_
      have hS := hS.no (Fr.drew _)
      refine WS.pv (pv_move rfl) rfl ?_
      refine WS.pv (pv_move rfl) rfl ?_
      refine WS.pv (pv_indexAddrS1 slT_22 rfl rfl rfl (by omega)) rfl ?_
      refine WS.rv (rv_load oneT_5 rfl (hS.fr.cellS (hcell k _ (bs8_at (by omega))) (fun h => h))) rfl ?_
      refine WS.pv (pv_move rfl) rfl ?_
      refine WS.pv (pv_move rfl) rfl ?_
      refine WS.pv (pv_indexAddrS1 slT_22 rfl rfl rfl (by omega)) rfl ?_
      refine WS.rv (rv_load oneT_5 rfl (hS.fr.cellS (hcell' k _ (bs8_at (by omega))) (fun h => h))) rfl ?_
      refine WS.pv (pv_neq rfl rfl) rfl ?_
      refine WS.done ?_
      refine QN.thenW ?_
      refine WC.condD rfl (fun hc25 => ?_) (fun hc25 => ?_)
      · skip
        have hne : ¬ la = lb := fun h => by subst h; simp at hc25
        refine WC.seq ?_
        refine WC.region ?_
        refine WL.pv (pv_assign rfl) rfl ?_
        refine WL.nil ?_
        refine QN.thenW ?_
        refine WC.ret ?_
        refine QN.blockR ?_
        refine QN.thenR ?_
        refine QN.thenR ?_
        refine QN.blockR ?_
        refine QN.thenR ?_
        refine QN.ret1 rfl rfl ?_
        first
        | exact ⟨by rw [decide_eq_false hne], hS.fr⟩
        | exact ⟨by rw [decide_eq_true heq], hS.fr⟩
      · skip
        have hEq : la[k]'(by omega) = lb[k]'(by omega) := UInt8.toNat_inj.mp (by omega)
        refine WC.skip ?_
        refine QN.blockN ?_
        refine QN.thenW ?_
        refine WC.region ?_
        refine WL.pv (pv_move rfl) rfl ?_
        refine WL.pv (pv_add rfl rfl (by omega)) rfl ?_
        refine WL.pv (pv_assign rfl) rfl ?_
        refine WL.nil ?_
        refine QN.roundE ?_
        refine ⟨(k + 1), (Sub.cons rfl (Sub.cons rfl (Sub.cons rfl Sub.nil))), ⟨by omega, take_eq_succ (by omega) (by omega) htk hEq, hS⟩, ?_⟩
        first | omega | (dsimp only; omega)
    · skip
      obtain rfl : k = m := by omega
      have heq : la = lb := by rwa [List.take_of_length_le (by omega), List.take_of_length_le (by omega)] at htk
      refine WC.exit ?_
      refine QN.thenX ?_
      refine QN.thenX ?_
      refine QN.blockX ?_
      refine QN.thenW ?_
      refine WC.seq ?_
      refine WC.region ?_
      refine WL.pv (pv_assign rfl) rfl ?_
      refine WL.nil ?_
      refine QN.thenW ?_
      refine WC.ret ?_
      refine QN.ret1 rfl rfl ?_
      first
      | exact ⟨by rw [decide_eq_false hne], hS.fr⟩
      | exact ⟨by rw [decide_eq_true heq], hS.fr⟩

end Go.Proofs.Ytjcebkhhgdgohaa
