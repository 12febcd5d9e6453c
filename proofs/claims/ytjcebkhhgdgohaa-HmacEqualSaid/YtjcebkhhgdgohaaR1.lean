/- What a few functions of the program compute, part R1. -/
import Derived.Test.YtjcebkhhgdgohaaW5
import Derived.Test.YtjcebkhhgdgohaaEngL
namespace Go.Proofs.Ytjcebkhhgdgohaa
open Go Go.RowKit Go.Eng
theorem aggT_162 : aggT Try.prog 162 = some 4 := by kernel_rfl
theorem cf_115 : callable Try.prog 115 = true := by kernel_rfl
theorem layT_162 : layOf Try.prog 162 = some [(0, 1), (1, 1), (2, 1), (3, 1)] := by kernel_rfl
theorem sizeT_162 : sizeT Try.prog 162 = some 4 := by kernel_rfl
theorem zeroT_162 : zeroT Try.prog 162 = some ([w64 0, .slice none 0 0, .int .i64 0, .int .i64 0]) := by kernel_rfl

/-- The bytes as a number, the highest first. -/
def numBE (l : List UInt8) : UInt64 := l.foldl (fun x c => 256 * x + c.toUInt64) 0
theorem numBE_snoc (l : List UInt8) (c : UInt8) : numBE (l ++ [c]) = 256 * numBE l + c.toUInt64 := by simp [numBE]
/-- What a function without memory of its own hands back. -/
def Pure (v : Value) (w0 : World) (e : Ending) (w : World) : Prop := e = .returned v ∧ w0 = w
theorem take_succ_drop {l : List UInt8} {a k : Nat} (h : a + k < l.length) : (l.drop a).take (k + 1) = (l.drop a).take k ++ [l[a + k]] := by
  rw [List.take_succ_eq_append_getElem (by simp; omega)]; simp

set_option maxRecDepth 100000 in
theorem number_c (A : Option Addr) (m c at_ n : Nat) (bl : List UInt8) (w0 : World) (hb : Rs w0 (.slice A m c) 1 (bs8 bl)) (h : at_ + n ≤ bl.length) :
    Calls Try.prog 115 #[.slice A m c, .int .i64 (at_ : Int), .int .i64 (n : Int)] w0 fun e w => e = .returned (w64 (numBE ((bl.drop at_).take n))) ∧ Fr No w0 w := by
  have hln := hb.len
  rw [bs8_len] at hln
  have hmx : m ≤ 9223372036854775807 := by have := hln; simp only [maxLen] at this; omega
  refine calls_of_WC (args := [.slice A m c, .int .i64 (at_ : Int), .int .i64 (n : Int)]) Try.func115 rfl Try.ntmps115 rfl ?_
  show WC _ _ _ _ [(0, .slice A m c), (1, .int .i64 (at_ : Int)), (2, .int .i64 (n : Int))] _
  have hS := ST.start w0 No
  refine WC.seq ?_
  refine WC.region ?_
  refine WL.pv (pv_assign rfl) rfl ?_
  refine WL.nil ?_
  refine QN.thenW ?_
  refine WC.seq ?_
  refine WC.region ?_
  refine WL.pv (pv_assign rfl) rfl ?_
  refine WL.nil ?_
  refine QN.thenW ?_
  refine WC.seq ?_
  refine WC.seq ?_
  refine WC.region ?_
  refine WL.pv (pv_assign rfl) rfl ?_
  refine WL.nil ?_
  refine QN.thenW ?_
  refine WC.block ?_
  refine WC.loop (α := Nat) (fun k => [(0, .slice A m c), (1, .int .i64 (at_ : Int)), (2, .int .i64 (n : Int)), (7, w64 (numBE ((bl.drop at_).take k))), (8, .int .i64 (k : Int))]) (fun k w => k ≤ n ∧ ST w0 No w []) (fun k => n - k) (0) (Sub.cons rfl (Sub.cons rfl (Sub.cons rfl (Sub.cons rfl (Sub.cons rfl Sub.nil))))) ⟨by omega, hS⟩ ?_
  rintro k w N hN hR
  obtain ⟨hk, hS⟩ := hR
  refine WC.seq ?_
  refine WC.seq ?_
  refine WC.region ?_
  refine WL.pv (pv_move rfl) rfl ?_
  refine WL.pv (pv_move rfl) rfl ?_
  refine WL.pv (pv_lss rfl rfl) rfl ?_
  refine WL.nil ?_
  refine QN.thenW ?_
  refine WC.condD rfl (fun hc11 => ?_) (fun hc11 => ?_)
  · skip
    have hkn : k < n := by omega
    obtain ⟨b, o, rfl, hl, hc1, hc2, hcell⟩ := hb.at_ (by rw [bs8_len]; omega)
    rw [bs8_len] at hl
    refine WC.skip ?_
    refine QN.thenW ?_
    refine WC.seq ?_
    refine WC.block ?_
    refine WC.region ?_
    refine WL.pv (pv_move rfl) rfl ?_
    refine WL.pv (pv_mul64 (a := 256) rfl rfl) rfl ?_
    refine WL.pv (pv_move rfl) rfl ?_
    refine WL.pv (pv_move rfl) rfl ?_
    refine WL.pv (pv_move rfl) rfl ?_
    refine WL.pv (pv_add rfl rfl (by omega)) rfl ?_
    refine WL.pv (pv_indexAddrS1 (j := at_ + k) slT_22 rfl rfl (by omega) (by omega)) rfl ?_
    refine WL.rv (rv_load oneT_5 rfl (hS.fr.cellS (hcell (at_ + k) _ (bs8_at (by omega))) (fun h => h))) rfl ?_
    refine WL.pv (pv_conv someT_5 Try.underlying86 rfl (cv_8_64 _)) rfl ?_
    refine WL.pv (pv_add64 rfl rfl) rfl ?_
    refine WL.pv (pv_assign rfl) rfl ?_
    refine WL.nil ?_
    refine QN.blockN ?_
    refine QN.thenW ?_
    refine WC.region ?_
    refine WL.pv (pv_move rfl) rfl ?_
    refine WL.pv (pv_add rfl rfl (by omega)) rfl ?_
    refine WL.pv (pv_assign rfl) rfl ?_
    refine WL.nil ?_
    have hsub : ∀ {v : Value}, v = w64 (256 * numBE ((bl.drop at_).take k) + (bl[at_ + k]'(by omega)).toUInt64) → some v = some (w64 (numBE ((bl.drop at_).take (k + 1)))) := fun h => by rw [h, take_succ_drop (by omega), numBE_snoc]
    replace hsub := hsub rfl
    refine QN.roundE ?_
    refine ⟨(k + 1), (Sub.cons rfl (Sub.cons rfl (Sub.cons rfl (Sub.cons hsub (Sub.cons rfl Sub.nil))))), ⟨by omega, hS⟩, ?_⟩
    first | omega | (dsimp only; omega)
  · skip
    obtain rfl : k = n := by omega
    refine WC.exit ?_
    refine QN.thenX ?_
    refine QN.thenX ?_
    refine QN.blockX ?_
    refine QN.thenW ?_
    refine WC.seq ?_
    refine WC.region ?_
    refine WL.pv (pv_move rfl) rfl ?_
    refine WL.pv (pv_assign rfl) rfl ?_
    refine WL.nil ?_
    refine QN.thenW ?_
    refine WC.ret ?_
    refine QN.ret1 rfl rfl ?_
    exact ⟨rfl, hS.fr⟩

set_option maxRecDepth 100000 in
theorem takeNum_c (A : Option Addr) (m c at_ n : Nat) (bl : List UInt8) (w0 : World) (hb : Rs w0 (.slice A m c) 1 (bs8 bl)) (h : at_ + n ≤ bl.length) (h1 : 1 ≤ n) (h8 : n ≤ 8) :
    Calls Try.prog 104 #[.slice A m c, .int .i64 (at_ : Int), .int .i64 (n : Int)] w0 fun e w => e = .returned (.agg [w64 (numBE ((bl.drop at_).take n)), .slice none 0 0, .int .i64 (n : Int), .int .i64 0].toArray) ∧ Fr No w0 w := by
  have hln := hb.len
  rw [bs8_len] at hln
  have hmx : m ≤ 9223372036854775807 := by have := hln; simp only [maxLen] at this; omega
  refine calls_of_WC (args := [.slice A m c, .int .i64 (at_ : Int), .int .i64 (n : Int)]) Try.func104 rfl Try.ntmps104 rfl ?_
  show WC _ _ _ _ [(0, .slice A m c), (1, .int .i64 (at_ : Int)), (2, .int .i64 (n : Int))] _
  have hS := ST.start w0 No
  refine WC.seq ?_
  refine WC.region ?_
  refine WL.alloc hS zeroT_162 rfl ?_
  intro b6 w hb6 hS
  refine WL.nil ?_
  refine QN.thenW ?_
  refine WC.seq ?_
  refine WC.seq ?_
  refine WC.region ?_
  refine WL.pv (pv_move rfl) rfl ?_
  refine WL.pv (pv_lss rfl rfl) rfl ?_
  refine WL.pv (pv_move rfl) rfl ?_
  refine WL.guardT rfl rfl rfl (lkF rfl (by omega)) ?_
  refine WL.pv (pv_move rfl) rfl ?_
  refine WL.guardT rfl rfl rfl (lkF rfl (by omega)) ?_
  refine WL.pv (pv_gtr rfl rfl) rfl ?_
  refine WL.pv (pv_pick0 (lkF rfl (by omega)) rfl) rfl ?_
  refine WL.nil ?_
  refine QN.thenW ?_
  refine WC.condDF rfl (by omega) ?_
  refine WC.skip ?_
  refine QN.thenW ?_
  refine WC.seq ?_
  refine WC.seq ?_
  refine WC.region ?_
  refine WL.pv (pv_move rfl) rfl ?_
  refine WL.pv (pv_len slS_22 rfl) rfl ?_
  refine WL.pv (pv_move rfl) rfl ?_
  refine WL.pv (pv_sub rfl rfl (by omega)) rfl ?_
  refine WL.pv (pv_move rfl) rfl ?_
  refine WL.pv (pv_lss rfl rfl) rfl ?_
  refine WL.nil ?_
  refine QN.thenW ?_
  refine WC.condDF rfl (by omega) ?_
  refine WC.skip ?_
  refine QN.thenW ?_
  refine WC.seq ?_
  refine WC.region ?_
  refine WL.pv (pv_move rfl) rfl ?_
  refine WL.pv (pv_move rfl) rfl ?_
  refine WL.pv (pv_move rfl) rfl ?_
  refine WL.call (args := [.tmp 21, .tmp 22, .tmp 23]) cf_115 rfl rfl (number_c A m c at_ n bl _ (hb.no hS.fr) h) ?_
  rintro _ w ⟨rfl, hF⟩
  refine ⟨_, rfl, ?_⟩
  replace hS := hS.no hF
  refine WL.pv (pv_move rfl) rfl ?_
  refine WL.pv (pv_buildS (parts := [(0, .tmp 24), (2, .tmp 25)]) layT_162 zeroT_162 rfl rfl) rfl ?_
  refine WL.storeAll (k := 0) (vs := [w64 (numBE ((bl.drop at_).take n)), .slice none 0 0, .int .i64 (n : Int), .int .i64 0]) hS (by rw [sizeT_162]; simp) rfl rfl rfl (by simp [Value.oneCell']) (by simp) ?_
  intro w hS
  try simp only [List.set] at hS
  refine WL.nil ?_
  refine QN.thenW ?_
  refine WC.ret ?_
  refine QN.retK (k := 0) rfl rfl hS rfl (by rw [aggT_162]; simp) ?_
  exact ⟨rfl, hS.fr⟩

end Go.Proofs.Ytjcebkhhgdgohaa
