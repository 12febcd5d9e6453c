/- What the functions of the disk and of the journal compute, second part. -/
import Derived.Test.YtjcebkhhgdgohaaJa
namespace Go.Proofs.Ytjcebkhhgdgohaa
open Go Go.RowKit Go.Eng
theorem cf_48 : callable Try.prog 48 = true := by kernel_rfl
theorem cf_49 : callable Try.prog 49 = true := by kernel_rfl
theorem cf_50 : callable Try.prog 50 = true := by kernel_rfl
theorem cf_51 : callable Try.prog 51 = true := by kernel_rfl
theorem cf_52 : callable Try.prog 52 = true := by kernel_rfl
theorem cf_54 : callable Try.prog 54 = true := by kernel_rfl

theorem areaB_zero (n s : Nat) : ∀ i, s + i ≤ n → areaB (List.replicate n zSec) s i = List.replicate (64 * i) 0
  | 0, _ => rfl
  | i + 1, h => by
    rw [areaB_succ, areaB_zero n s i (by omega), List.getD_eq_getElem?_getD, List.getElem?_eq_getElem (by simp; omega), Option.getD_some, List.getElem_replicate, zSec, List.replicate_append_replicate]
    rfl
theorem recH_zero : recH 0 [] [] = List.replicate 10 0 := by decide
def AR0 (_ : Nat) : UInt64 × List UInt8 × List UInt8 := (0, [], [])
theorem AI_zero {n half a : Nat} (h : a * half + half ≤ n) (h1 : 1 ≤ half) : AI (List.replicate n zSec) half a (0, [], []) :=
  ⟨⟨List.replicate (64 * half - 10) 0, by rw [areaB_zero _ _ _ h]; show _ = recH 0 [] [] ++ _; rw [recH_zero, List.replicate_append_replicate]; congr 1; omega, .inl rfl⟩, by simp, by simp⟩
theorem opn_zero : opn AR0 2 = (0, -1, [], []) := by simp [opn, AR0]
theorem Dsk.zero (n : Int) : Dsk (nDisk n) (List.replicate (nDisk n) zSec) := ⟨by simp, KN.rep 64 _, nDisk_le n⟩
theorem AI_new {n : Int} (h : 4 ≤ nDisk n) : ∀ k, k < 2 → AI (List.replicate (nDisk n) zSec) (nDisk n / 2) k (AR0 k) := fun k hk => AI_zero (by rcases (show k = 0 ∨ k = 1 by omega) with rfl | rfl <;> omega) (by omega)

set_option maxRecDepth 100000 in
theorem wakesJ_c (w0 : World) : Calls Try.prog 48 #[] w0 fun e w => e = .returned (.bool true) ∧ Fr No w0 w := by
  have hn4 : 4 ≤ nDisk 4 := by decide
  refine calls_of_WC (args := []) Try.func48 rfl Try.ntmps48 rfl ?_
  show WC _ _ _ _ [] _
  have hS := ST.start w0 No
  refine WC.seq ?_
  refine WC.region ?_
  refine WL.pv (pv_assign rfl) rfl ?_
  refine WL.nil ?_
  refine QN.thenW ?_
  refine WC.seq ?_
  refine WC.region ?_
  refine WL.call (args := [.const (.int .i64 4)]) cf_49 rfl rfl (newK_c 4 _) ?_
  rintro _ w ⟨bd, bn, vs, rfl, hS2⟩
  refine ⟨_, rfl, ?_⟩
  replace hS := hS.join hS2
  simp only [esK, List.append_nil] at hS
  refine WL.call (args := [.tmp 6]) cf_50 rfl rfl (open_c bd bn (nDisk 4) vs (.slice none 0 0) _ (hS.bk (k := 0) rfl) (List.replicate (nDisk 4) zSec) (hS.bk (k := 1) rfl) (Dsk.zero 4) hn4 AR0 (AI_new hn4)) ?_
  rintro _ w ⟨bj, A1, A2, m1, c1, m2, c2, rfl, hS2⟩
  refine ⟨_, rfl, ?_⟩
  replace hS := hS.join hS2
  simp only [opn_zero, List.cons_append, List.nil_append] at hS
  refine WL.pv (pv_move rfl) rfl ?_
  refine WL.pv (pv_extL rfl rfl) rfl ?_
  refine WL.pv (pv_extL rfl rfl) rfl ?_
  refine WL.pv (pv_assign rfl) rfl ?_
  refine WL.pv (pv_assign rfl) rfl ?_
  refine WL.nil ?_
  refine QN.thenW ?_
  refine WC.seq ?_
  refine WC.region ?_
  refine WL.pv (pv_move rfl) rfl ?_
  refine WL.call (args := [.tmp 11]) cf_52 rfl rfl (stateNo_c bj bd (nDisk 4 / 2) 0 (-1) A1 A2 m1 c1 m2 c2 _ (hS.bk (k := 0) rfl) (by omega)) ?_
  rintro _ w ⟨rfl, hF⟩
  refine ⟨_, rfl, ?_⟩
  replace hS := hS.no hF
  refine WL.pv (pv_move rfl) rfl ?_
  refine WL.pv (pv_extL rfl rfl) rfl ?_
  refine WL.pv (pv_extL rfl rfl) rfl ?_
  refine WL.alloc hS zeroT_78 rfl ?_
  intro b3 w hb3 hS
  refine WL.storeAll (k := 0) (vs := [.slice none 0 0, .slice none 0 0]) hS (by rw [sizeT_78]; simp) rfl rfl rfl (by first | (simp; done) | simp [Value.oneCell']) (by simp) ?_
  intro w hS
  try simp only [List.set] at hS
  refine WL.pv (pv_assign rfl) rfl ?_
  refine WL.nil ?_
  refine QN.thenW ?_
  refine WC.seq ?_
  refine WC.region ?_
  refine WL.pv (pv_move rfl) rfl ?_
  refine WL.pv (pv_eql rfl rfl) rfl ?_
  refine WL.pv (pv_move rfl) rfl ?_
  refine WL.guardT rfl rfl rfl (lkT rfl rfl) ?_
  refine WL.pv (pv_move rfl) rfl ?_
  refine WL.guardT rfl rfl rfl (lkT rfl rfl) ?_
  refine WL.pv (pv_not rfl) rfl ?_
  refine WL.pv (pv_pick1 (lkT rfl rfl) rfl) rfl ?_
  refine WL.pv (pv_move rfl) rfl ?_
  refine WL.guardT rfl rfl rfl (lkB rfl rfl) ?_
  refine WL.pv (pv_move rfl) rfl ?_
  refine WL.guardT rfl rfl rfl (lkB rfl rfl) ?_
  refine WL.call (args := [.tmp 22]) cf_54 rfl rfl (room_c bj bd (nDisk 4 / 2) 0 (-1) A1 A2 m1 c1 m2 c2 _ (hS.bk (k := 1) rfl) (by decide)) ?_
  rintro _ w ⟨rfl, hF⟩
  refine ⟨_, rfl, ?_⟩
  replace hS := hS.no hF
  refine WL.guardT rfl rfl rfl (lkB rfl rfl) ?_
  refine WL.pv (pv_eql rfl rfl) rfl ?_
  refine WL.pv (pv_pick1 (lkB rfl rfl) rfl) rfl ?_
  refine WL.pv (pv_assign rfl) rfl ?_
  refine WL.nil ?_
  refine QN.thenW ?_
  refine WC.ret ?_
  refine QN.ret1 rfl rfl ?_
  exact ⟨by rw [decide_eq_true (by decide)], hS.fr⟩

set_option maxRecDepth 100000 in
theorem saveNil_c (x y : Value) (w0 : World) : Calls Try.prog 51 #[.pointer none, .agg #[x, y]] w0 fun e w => e = .returned (.int .i64 15) ∧ Fr No w0 w := by
  refine calls_of_WC (args := [.pointer none, .agg #[x, y]]) Try.func51 rfl Try.ntmps51 rfl ?_
  show WC _ _ _ _ [(0, .pointer none), (1, .agg #[x, y])] _
  have hS := ST.start w0 No
  refine WC.seq ?_
  refine WC.region ?_
  refine WL.box (vs := [x, y]) hS rfl rfl rfl ?_
  intro b3 w hb3 hS
  refine WL.pv (pv_assign rfl) rfl ?_
  refine WL.nil ?_
  refine QN.thenW ?_
  refine WC.seq ?_
  refine WC.block ?_
  refine WC.seq ?_
  refine WC.region ?_
  refine WL.pv (pv_move rfl) rfl ?_
  refine WL.pv (pv_eqlP Try.underlying74 rfl rfl (by simp)) rfl ?_
  refine WL.pv (pv_assign rfl) rfl ?_
  refine WL.nil ?_
  refine QN.thenW ?_
  refine WC.condT rfl rfl ?_
  refine WC.seq ?_
  refine WC.region ?_
  refine WL.pv (pv_assign rfl) rfl ?_
  refine WL.nil ?_
  refine QN.thenW ?_
  refine WC.ret ?_
  refine QN.blockR ?_
  refine QN.thenR ?_
  refine QN.ret1 rfl rfl ?_
  exact ⟨rfl, hS.fr⟩

set_option maxRecDepth 100000 in
theorem journalNil_c (x y : Value) (n : Int) (w0 : World) : Calls Try.prog 17 #[.agg #[x, y], .int .i64 n] w0 fun e w => e = .returned (.bool true) ∧ Fr No w0 w := by
  refine calls_of_WC (args := [.agg #[x, y], .int .i64 n]) Try.func17 rfl Try.ntmps17 rfl ?_
  show WC _ _ _ _ [(0, .agg #[x, y]), (1, .int .i64 n)] _
  have hS := ST.start w0 No
  refine WC.seq ?_
  refine WC.region ?_
  refine WL.box (vs := [x, y]) hS rfl rfl rfl ?_
  intro b2 w hb2 hS
  refine WL.pv (pv_assign rfl) rfl ?_
  refine WL.nil ?_
  refine QN.thenW ?_
  refine WC.seq ?_
  refine WC.region ?_
  refine WL.pv (pv_assign rfl) rfl ?_
  refine WL.nil ?_
  refine QN.thenW ?_
  refine WC.seq ?_
  refine WC.seq ?_
  refine WC.region ?_
  refine WL.call (args := []) cf_48 rfl rfl (wakesJ_c _) ?_
  rintro _ w ⟨rfl, hF⟩
  refine ⟨_, rfl, ?_⟩
  replace hS := hS.no hF
  refine WL.pv (pv_not rfl) rfl ?_
  refine WL.nil ?_
  refine QN.thenW ?_
  refine WC.condF rfl rfl ?_
  refine WC.skip ?_
  refine QN.thenW ?_
  refine WC.seq ?_
  refine WC.region ?_
  refine WL.pv (pv_move rfl) rfl ?_
  refine WL.call (args := [.tmp 15]) cf_52 rfl rfl (stateNil_c _) ?_
  rintro _ w ⟨rfl, hF⟩
  refine ⟨_, rfl, ?_⟩
  replace hS := hS.no hF
  refine WL.pv (pv_move rfl) rfl ?_
  refine WL.pv (pv_extL rfl rfl) rfl ?_
  refine WL.pv (pv_extL rfl rfl) rfl ?_
  refine WL.alloc hS zeroT_78 rfl ?_
  intro b6 w hb6 hS
  refine WL.storeAll (k := 0) (vs := [.slice none 0 0, .slice none 0 0]) hS (by rw [sizeT_78]; simp) rfl rfl rfl (by first | (simp; done) | simp [Value.oneCell']) (by simp) ?_
  intro w hS
  try simp only [List.set] at hS
  refine WL.pv (pv_assign rfl) rfl ?_
  refine WL.nil ?_
  refine QN.thenW ?_
  refine WC.seq ?_
  refine WC.region ?_
  refine WL.call (args := [.const (.pointer none)]) cf_50 rfl rfl (openNil_c _) ?_
  rintro _ w ⟨rfl, hF⟩
  refine ⟨_, rfl, ?_⟩
  replace hS := hS.no hF
  refine WL.pv (pv_move rfl) rfl ?_
  refine WL.pv (pv_extL rfl rfl) rfl ?_
  refine WL.pv (pv_extL rfl rfl) rfl ?_
  refine WL.pv (pv_assign rfl) rfl ?_
  refine WL.pv (pv_assign rfl) rfl ?_
  refine WL.nil ?_
  refine QN.thenW ?_
  refine WC.seq ?_
  by_cases hn : n < 4
  · skip
    refine WC.region ?_
    refine WL.pv (pv_move rfl) rfl ?_
    refine WL.call (args := [.tmp 24]) cf_49 rfl rfl (newK_c n _) ?_
    rintro _ w ⟨bd, bn, vs, rfl, hS2⟩
    refine ⟨_, rfl, ?_⟩
    replace hS := hS.join hS2
    simp only [esK, List.cons_append, List.nil_append] at hS
    refine WL.call (args := [.tmp 25]) cf_50 rfl rfl (openSmall_c bd bn (nDisk n) vs (.slice none 0 0) _ (hS.bk (k := 0) rfl) (by unfold nDisk; omega)) ?_
    rintro _ w ⟨rfl, hF⟩
    refine ⟨_, rfl, ?_⟩
    replace hS := hS.no hF
    refine WL.pv (pv_move rfl) rfl ?_
    refine WL.pv (pv_extL rfl rfl) rfl ?_
    refine WL.pv (pv_extL rfl rfl) rfl ?_
    refine WL.pv (pv_assign rfl) rfl ?_
    refine WL.pv (pv_assign rfl) rfl ?_
    refine WL.nil ?_
    refine QN.thenW ?_
    refine WC.seq ?_
    refine WC.region ?_
    refine WL.pv (pv_move rfl) rfl ?_
    refine WL.pv (pv_not rfl) rfl ?_
    refine WL.pv (pv_move rfl) rfl ?_
    refine WL.guardT rfl rfl rfl (lkB rfl rfl) ?_
    refine WL.pv (pv_move rfl) rfl ?_
    refine WL.guardT rfl rfl rfl (lkB rfl rfl) ?_
    refine WL.rv (rv_load_all (k := 4) hS rfl rfl (by rw [aggT_78]; simp)) rfl ?_
    refine WL.guardT rfl rfl rfl (lkB rfl rfl) ?_
    refine WL.call (args := [.tmp 32, .tmp 33]) cf_51 rfl rfl (saveNil_c _ _ _) ?_
    rintro _ w ⟨rfl, hF⟩
    refine ⟨_, rfl, ?_⟩
    replace hS := hS.no hF
    refine WL.guardT rfl rfl rfl (lkB rfl rfl) ?_
    refine WL.pv (pv_eql rfl rfl) rfl ?_
    refine WL.pv (pv_pick1 (lkB rfl rfl) rfl) rfl ?_
    refine WL.pv (pv_move rfl) rfl ?_
    refine WL.guardT rfl rfl rfl (lkT rfl rfl) ?_
    refine WL.pv (pv_move rfl) rfl ?_
    refine WL.guardT rfl rfl rfl (lkT rfl rfl) ?_
    refine WL.call (args := [.tmp 38]) cf_54 rfl rfl (roomNil_c _) ?_
    rintro _ w ⟨rfl, hF⟩
    refine ⟨_, rfl, ?_⟩
    replace hS := hS.no hF
    refine WL.guardT rfl rfl rfl (lkT rfl rfl) ?_
    refine WL.pv (pv_eql rfl rfl) rfl ?_
    refine WL.pv (pv_pick1 (lkT rfl rfl) rfl) rfl ?_
    refine WL.pv (pv_move rfl) rfl ?_
    refine WL.guardT rfl rfl rfl (lkT rfl rfl) ?_
    refine WL.pv (pv_move rfl) rfl ?_
    refine WL.guardT rfl rfl rfl (lkT rfl rfl) ?_
    refine WL.pv (pv_eql rfl rfl) rfl ?_
    refine WL.pv (pv_pick1 (lkT rfl rfl) rfl) rfl ?_
    refine WL.pv (pv_move rfl) rfl ?_
    refine WL.guardT rfl rfl rfl (lkT rfl rfl) ?_
    refine WL.pv (pv_move rfl) rfl ?_
    refine WL.guardT rfl rfl rfl (lkT rfl rfl) ?_
    refine WL.pv (pv_lss rfl rfl) rfl ?_
    refine WL.guardT rfl rfl rfl (lkT rfl rfl) ?_
    refine WL.pv (pv_move rfl) rfl ?_
    refine WL.guardT rfl rfl rfl (lkT rfl rfl) ?_
    refine WL.pv (pv_eql rfl rfl) rfl ?_
    refine WL.guardT rfl rfl rfl (lkT rfl rfl) ?_
    refine WL.pv (pv_eqlB Try.underlying4 rfl rfl) rfl ?_
    refine WL.pv (pv_pick1 (lkT rfl rfl) rfl) rfl ?_
    refine WL.pv (pv_move rfl) rfl ?_
    refine WL.guardT rfl rfl rfl (lkB rfl (by rw [decide_eq_true hn]; rfl)) ?_
    refine WL.pv (pv_move rfl) rfl ?_
    refine WL.guardT rfl rfl rfl (lkB rfl (by rw [decide_eq_true hn]; rfl)) ?_
    refine WL.pv (pv_eqlP Try.underlying74 rfl rfl (by simp)) rfl ?_
    refine WL.guardT rfl rfl rfl (lkB rfl (by rw [decide_eq_true hn]; rfl)) ?_
    refine WL.pv (pv_move rfl) rfl ?_
    refine WL.guardT rfl rfl rfl (lkB rfl (by rw [decide_eq_true hn]; rfl)) ?_
    refine WL.pv (pv_lss rfl rfl) rfl ?_
    refine WL.guardT rfl rfl rfl (lkB rfl (by rw [decide_eq_true hn]; rfl)) ?_
    refine WL.pv (pv_eqlB Try.underlying4 rfl rfl) rfl ?_
    refine WL.pv (pv_pick1 (lkB rfl (by rw [decide_eq_true hn]; rfl)) rfl) rfl ?_
    refine WL.pv (pv_assign rfl) rfl ?_
    refine WL.nil ?_
    refine QN.thenW ?_
    refine WC.ret ?_
    refine QN.ret1 rfl rfl ?_
    exact ⟨by rw [decide_eq_true hn]; rfl, hS.fr⟩
  · skip
    refine WC.region ?_
    refine WL.pv (pv_move rfl) rfl ?_
    refine WL.call (args := [.tmp 24]) cf_49 rfl rfl (newK_c n _) ?_
    rintro _ w ⟨bd, bn, vs, rfl, hS2⟩
    refine ⟨_, rfl, ?_⟩
    replace hS := hS.join hS2
    simp only [esK, List.cons_append, List.nil_append] at hS
    have hn4 : 4 ≤ nDisk n := by unfold nDisk; omega
    refine WL.call (args := [.tmp 25]) cf_50 rfl rfl (open_c bd bn (nDisk n) vs (.slice none 0 0) _ (hS.bk (k := 0) rfl) (List.replicate (nDisk n) zSec) (hS.bk (k := 1) rfl) (Dsk.zero n) hn4 AR0 (AI_new hn4)) ?_
    rintro _ w ⟨bj, A1, A2, m1, c1, m2, c2, rfl, hS2⟩
    refine ⟨_, rfl, ?_⟩
    replace hS := hS.join hS2
    simp only [opn_zero, List.cons_append, List.nil_append] at hS
    refine WL.pv (pv_move rfl) rfl ?_
    refine WL.pv (pv_extL rfl rfl) rfl ?_
    refine WL.pv (pv_extL rfl rfl) rfl ?_
    refine WL.pv (pv_assign rfl) rfl ?_
    refine WL.pv (pv_assign rfl) rfl ?_
    refine WL.nil ?_
    refine QN.thenW ?_
    refine WC.seq ?_
    refine WC.region ?_
    refine WL.pv (pv_move rfl) rfl ?_
    refine WL.pv (pv_not rfl) rfl ?_
    refine WL.pv (pv_move rfl) rfl ?_
    refine WL.guardT rfl rfl rfl (lkB rfl rfl) ?_
    refine WL.pv (pv_move rfl) rfl ?_
    refine WL.guardT rfl rfl rfl (lkB rfl rfl) ?_
    refine WL.rv (rv_load_all (k := 7) hS rfl rfl (by rw [aggT_78]; simp)) rfl ?_
    refine WL.guardT rfl rfl rfl (lkB rfl rfl) ?_
    refine WL.call (args := [.tmp 32, .tmp 33]) cf_51 rfl rfl (saveNil_c _ _ _) ?_
    rintro _ w ⟨rfl, hF⟩
    refine ⟨_, rfl, ?_⟩
    replace hS := hS.no hF
    refine WL.guardT rfl rfl rfl (lkB rfl rfl) ?_
    refine WL.pv (pv_eql rfl rfl) rfl ?_
    refine WL.pv (pv_pick1 (lkB rfl rfl) rfl) rfl ?_
    refine WL.pv (pv_move rfl) rfl ?_
    refine WL.guardT rfl rfl rfl (lkT rfl rfl) ?_
    refine WL.pv (pv_move rfl) rfl ?_
    refine WL.guardT rfl rfl rfl (lkT rfl rfl) ?_
    refine WL.call (args := [.tmp 38]) cf_54 rfl rfl (roomNil_c _) ?_
    rintro _ w ⟨rfl, hF⟩
    refine ⟨_, rfl, ?_⟩
    replace hS := hS.no hF
    refine WL.guardT rfl rfl rfl (lkT rfl rfl) ?_
    refine WL.pv (pv_eql rfl rfl) rfl ?_
    refine WL.pv (pv_pick1 (lkT rfl rfl) rfl) rfl ?_
    refine WL.pv (pv_move rfl) rfl ?_
    refine WL.guardT rfl rfl rfl (lkT rfl rfl) ?_
    refine WL.pv (pv_move rfl) rfl ?_
    refine WL.guardT rfl rfl rfl (lkT rfl rfl) ?_
    refine WL.pv (pv_eql rfl rfl) rfl ?_
    refine WL.pv (pv_pick1 (lkT rfl rfl) rfl) rfl ?_
    refine WL.pv (pv_move rfl) rfl ?_
    refine WL.guardT rfl rfl rfl (lkT rfl rfl) ?_
    refine WL.pv (pv_move rfl) rfl ?_
    refine WL.guardT rfl rfl rfl (lkT rfl rfl) ?_
    refine WL.pv (pv_lss rfl rfl) rfl ?_
    refine WL.guardT rfl rfl rfl (lkT rfl rfl) ?_
    refine WL.pv (pv_move rfl) rfl ?_
    refine WL.guardT rfl rfl rfl (lkT rfl rfl) ?_
    refine WL.pv (pv_eql rfl rfl) rfl ?_
    refine WL.guardT rfl rfl rfl (lkT rfl rfl) ?_
    refine WL.pv (pv_eqlB Try.underlying4 rfl rfl) rfl ?_
    refine WL.pv (pv_pick1 (lkT rfl rfl) rfl) rfl ?_
    refine WL.pv (pv_move rfl) rfl ?_
    refine WL.guardT rfl rfl rfl (lkB rfl (by rw [decide_eq_false hn]; rfl)) ?_
    refine WL.pv (pv_move rfl) rfl ?_
    refine WL.guardT rfl rfl rfl (lkB rfl (by rw [decide_eq_false hn]; rfl)) ?_
    refine WL.pv (pv_eqlP Try.underlying74 rfl rfl (by simp)) rfl ?_
    refine WL.guardT rfl rfl rfl (lkB rfl (by rw [decide_eq_false hn]; rfl)) ?_
    refine WL.pv (pv_move rfl) rfl ?_
    refine WL.guardT rfl rfl rfl (lkB rfl (by rw [decide_eq_false hn]; rfl)) ?_
    refine WL.pv (pv_lss rfl rfl) rfl ?_
    refine WL.guardT rfl rfl rfl (lkB rfl (by rw [decide_eq_false hn]; rfl)) ?_
    refine WL.pv (pv_eqlB Try.underlying4 rfl rfl) rfl ?_
    refine WL.pv (pv_pick1 (lkB rfl (by rw [decide_eq_false hn]; rfl)) rfl) rfl ?_
    refine WL.pv (pv_assign rfl) rfl ?_
    refine WL.nil ?_
    refine QN.thenW ?_
    refine WC.ret ?_
    refine QN.ret1 rfl rfl ?_
    exact ⟨by rw [decide_eq_false hn]; rfl, hS.fr⟩


/-- A state that came in. -/
theorem st_of_trod {H : Type} {enc : TypeId × Value → H} {w : World} {base fuel : Nat} {cs : List Value} {x : DataW H × List MemPlace} (h : DataW.trod enc Try.prog w base (fun _ => true) true fuel 78 cs = some x) :
    ∃ (A1 A2 : Option Addr) (m1 c1 m2 c2 : Nat) (s1 s2 : List UInt8), cs = [.slice A1 m1 c1, .slice A2 m2 c2] ∧ Rs w (.slice A1 m1 c1) 1 (bs8 s1) ∧ Rs w (.slice A2 m2 c2) 1 (bs8 s2) := by
  have c22 : Try.prog.cellsOf 22 = 1 := by kernel_rfl
  have c5 : Try.prog.cellsOf 5 = 1 := by kernel_rfl
  have hl := (fld_of_trod Try.underlying78 h).1
  rw [show Try.prog.cellsOf 78 = 2 from by kernel_rfl] at hl
  obtain ⟨x0, x1, rfl⟩ : ∃ x0 x1, cs = [x0, x1] := by
    match cs, hl with
    | [x0, x1], _ => exact ⟨x0, x1, rfl⟩
  obtain ⟨_, _, h0⟩ := fld1_of_trod Try.underlying78 h 0 rfl c22 (v := x0) rfl
  obtain ⟨_, _, h1⟩ := fld1_of_trod Try.underlying78 h 1 rfl c22 (v := x1) rfl
  obtain ⟨s1, r1⟩ := rs_of_trod Try.underlying22 Try.underlying5 c5 h0
  obtain ⟨s2, r2⟩ := rs_of_trod Try.underlying22 Try.underlying5 c5 h1
  obtain ⟨A1, m1, c1, rfl, _⟩ := id r1
  obtain ⟨A2, m2, c2, rfl, _⟩ := id r2
  exact ⟨_, _, _, _, _, _, s1, s2, rfl, r1, r2⟩

end Go.Proofs.Ytjcebkhhgdgohaa
namespace Go.Proofs.Ytjcebkhhgdgohaa
open Go Go.RowKit Go.Eng


theorem ST.notPart {w0 w : World} {M : Nat → Prop} {fr es : List Ent} {k : Nat} {e : Ent} (h : ST w0 M w (fr ++ es)) (hk : fr[k]? = some e) {b : Nat} (hb : e.block = some b) : ¬ Ours es b := by
  rintro ⟨f, hf, hfb⟩
  exact (List.pairwise_append.1 h.sep).2.2 e (List.mem_of_getElem? hk) f hf b hb hfb
/-- Sectors written, one behind another. -/
def sK (ss : List (List UInt8)) (s : Nat) (B : List UInt8) : Nat → List (List UInt8)
  | 0 => ss
  | k + 1 => (sK ss s B k).set (s + k) ((B.drop (64 * k)).take 64)
theorem sK_len (ss : List (List UInt8)) (s : Nat) (B : List UInt8) : ∀ k, (sK ss s B k).length = ss.length
  | 0 => rfl
  | k + 1 => by rw [sK, List.length_set, sK_len ss s B k]
theorem getD_set {α : Type} (l : List α) (i j : Nat) (v d : α) : (l.set i v).getD j d = if i = j ∧ j < l.length then v else l.getD j d := by
  rw [List.getD_eq_getElem?_getD, List.getD_eq_getElem?_getD, List.getElem?_set]
  by_cases h : i = j
  · subst h
    by_cases h2 : i < l.length
    · rw [if_pos rfl, if_pos h2, if_pos ⟨rfl, h2⟩]; rfl
    · rw [if_pos rfl, if_neg h2, if_neg (fun h => h2 h.2), List.getElem?_eq_none (by omega)]
  · rw [if_neg h, if_neg (fun h2 => h h2.1)]
theorem sK_out (ss : List (List UInt8)) (s : Nat) (B : List UInt8) (j : Nat) : ∀ k, (j < s ∨ s + k ≤ j) → (sK ss s B k).getD j [] = ss.getD j []
  | 0, _ => rfl
  | k + 1, h => by rw [sK, getD_set, if_neg (fun h2 => by omega), sK_out ss s B j k (by omega)]
theorem sK_in (ss : List (List UInt8)) (s : Nat) (B : List UInt8) (j : Nat) : ∀ k, j < k → s + k ≤ ss.length → (sK ss s B k).getD (s + j) [] = (B.drop (64 * j)).take 64
  | 0, h, _ => by omega
  | k + 1, h, hl => by
    rw [sK, getD_set, sK_len]
    by_cases hj : j = k
    · subst hj; rw [if_pos ⟨rfl, by omega⟩]
    · rw [if_neg (fun h2 => hj (by omega)), sK_in ss s B j k (by omega) (by omega)]
theorem sK_dsk {n : Nat} {ss : List (List UInt8)} {s : Nat} {B : List UInt8} (h : Dsk n ss) : ∀ {k : Nat}, 64 * k ≤ B.length → Dsk n (sK ss s B k)
  | 0, _ => h
  | k + 1, hk => (sK_dsk h (by omega)).set _ (by rw [List.length_take, List.length_drop]; omega)
def zB (half : Nat) : List UInt8 := List.replicate (64 * half) 0
theorem zB_at {half k : Nat} (h : k < half) : ((zB half).drop (64 * k)).take 64 = zSec := by
  rw [zB, List.drop_replicate, List.take_replicate, zSec, show min 64 (64 * half - 64 * k) = 64 from by omega]
theorem set_same {α : Type} (l : List α) (i : Nat) (d : α) (v : α) (h : i < l.length → l.getD i d = v) : l.set i v = l := by
  apply List.ext_getElem?
  intro j
  rw [List.getElem?_set]
  by_cases hj : i = j
  · subst hj
    by_cases h2 : i < l.length
    · rw [if_pos rfl, if_pos h2, ← h h2, List.getD_eq_getElem?_getD, List.getElem?_eq_getElem h2]; rfl
    · rw [if_pos rfl, if_neg h2, List.getElem?_eq_none (by omega)]
  · rw [if_neg hj]
theorem ba_eq (a b : List UInt8) : ((ByteArray.mk a.toArray).toList == (ByteArray.mk b.toArray).toList) = decide (a = b) := by
  have h (l : List UInt8) : (ByteArray.mk l.toArray).toList = l := by
    rw [ByteArray.toList_eq]
  rw [h, h]
  by_cases hab : a = b
  · subst hab; simp
  · rw [decide_eq_false hab]; simpa using hab

set_option maxRecDepth 100000 in
theorem eqBytes_c (A B : Option Addr) (m c m2 c2 : Nat) (la lb : List UInt8) (w0 : World) (ha : Rs w0 (.slice A m c) 1 (bs8 la)) (hb : Rs w0 (.slice B m2 c2) 1 (bs8 lb)) : Calls Try.prog 96 #[.slice A m c, .slice B m2 c2] w0 fun e w => e = .returned (.bool (decide (la = lb))) ∧ Fr No w0 w := by
  refine calls_of_WC (args := [.slice A m c, .slice B m2 c2]) Try.func96 rfl Try.ntmps96 rfl ?_
  show WC _ _ _ _ [(0, .slice A m c), (1, .slice B m2 c2)] _
  have hS := ST.start w0 No
  refine WC.seq ?_
  refine WC.region ?_
  refine WL.pv (pv_assign rfl) rfl ?_
  refine WL.nil ?_
  refine QN.thenW ?_
  refine WC.seq ?_
  refine WC.region ?_
  refine WL.pv (pv_move rfl) rfl ?_
  refine WL.rv (rv_convBytes Try.underlying22 Try.underlying5 Try.underlying9 rfl ha) rfl ?_
  refine WL.pv (pv_move rfl) rfl ?_
  refine WL.rv (rv_convBytes Try.underlying22 Try.underlying5 Try.underlying9 rfl hb) rfl ?_
  refine WL.pv (pv_eqlStr rfl rfl) rfl ?_
  refine WL.pv (pv_assign rfl) rfl ?_
  refine WL.nil ?_
  refine QN.thenW ?_
  refine WC.ret ?_
  refine QN.ret1 rfl rfl ?_
  exact ⟨by rw [ba_eq], hS.fr⟩

end Go.Proofs.Ytjcebkhhgdgohaa
namespace Go.Proofs.Ytjcebkhhgdgohaa
open Go Go.RowKit Go.Eng
theorem cf_75 : callable Try.prog 75 = true := by kernel_rfl
theorem cf_76 : callable Try.prog 76 = true := by kernel_rfl
theorem cf_96 : callable Try.prog 96 = true := by kernel_rfl
theorem oneT_37 : oneT Try.prog 37 = true := by kernel_rfl
theorem sizeT_37 : sizeT Try.prog 37 = some 1 := by kernel_rfl
theorem sizeT_4 : sizeT Try.prog 4 = some 1 := by kernel_rfl
theorem zeroT_37 : zeroT Try.prog 37 = some ([.int .i64 0]) := by kernel_rfl
theorem zeroT_4 : zeroT Try.prog 4 = some ([.bool false]) := by kernel_rfl
set_option maxHeartbeats 1000000 in
set_option maxRecDepth 100000 in
theorem clear_c (bj bd bn half ar n : Nat) (num : UInt64) (hold : Int) (S1 S2 vs0 vp0 : Value) (ss : List (List UInt8)) (w0 : World) (hj : Bk w0 bj 116 [.pointer (some ⟨bd, 0, none⟩), .int .i64 (half : Int), w64 num, .int .i64 hold, S1, S2]) (hNj : ¬ Ours (esK bd bn vs0 vp0 n ss []) bj) (h0 : ST w0 (Ours (esK bd bn vs0 vp0 n ss [])) w0 (esK bd bn vs0 vp0 n ss [])) (hds : Dsk n ss) (hh : ar * half + half ≤ n) : Calls Try.prog 74 #[.pointer (some ⟨bj, 0, none⟩), .int .i64 (ar : Int)] w0 fun e w => e = .returned (.int .i64 0) ∧ ∃ vs vp, ST w0 (Ours (esK bd bn vs0 vp0 n ss [])) w (esK bd bn vs vp n (sK ss (ar * half) (zB half) half) []) := by
  have hdl0 := hds.len
  have hdle0 := hds.le
  refine calls_of_WCM (args := [.pointer (some ⟨bj, 0, none⟩), .int .i64 (ar : Int)]) Try.func74 rfl Try.ntmps74 rfl ?_
  show WC _ _ _ _ [(0, .pointer (some ⟨bj, 0, none⟩)), (1, .int .i64 (ar : Int))] _
  have hS : ST w0 (Ours (esK bd bn vs0 vp0 n ss [])) w0 (esK bd bn vs0 vp0 n ss []) := h0
  unfold esK at hS
  refine WC.seq ?_
  refine WC.region ?_
  refine WL.box (vs := _) hS rfl rfl rfl ?_
  intro bx w hbx hS
  refine WL.alloc hS zeroT_37 rfl ?_
  intro b4 w hb4 hS
  refine WL.nil ?_
  refine QN.thenW ?_
  refine WC.seq ?_
  refine WC.region ?_
  refine WL.makeB (c := 64) hS slT_22 zeroT_5 (by simp) rfl rfl (by omega) (by simp [maxLen]) rfl ?_
  intro bz w hbz hS
  rw [show (List.replicate 64 [b8 0]).flatten = bs8 zSec from by rw [zSec]; simp [bs8]] at hS
  refine WL.alloc hS zeroT_22 rfl ?_
  intro b5 w hb5 hS
  refine WL.store (k := 0) hS sizeT_22 rfl rfl rfl rfl (by simp) ?_
  intro w hS
  try simp only [List.set] at hS
  refine WL.nil ?_
  refine QN.thenW ?_
  refine WC.seq ?_
  refine WC.region ?_
  refine WL.alloc hS zeroT_4 rfl ?_
  intro b6 w hb6 hS
  refine WL.store (k := 0) hS sizeT_4 rfl rfl rfl rfl (by simp) ?_
  intro w hS
  try simp only [List.set] at hS
  refine WL.nil ?_
  refine QN.thenW ?_
  refine WC.seq ?_
  refine WC.region ?_
  refine WL.pv (pv_move rfl) rfl ?_
  refine WL.rv (rv_load_blk (k := 4) hS oneT_74 rfl rfl rfl) rfl ?_
  refine WL.pv (pv_nil rfl) rfl ?_
  refine WL.pv (pv_fieldAddr fldT_116_1 rfl) rfl ?_
  refine WL.rv (rv_load oneT_3 rfl (by rw [(hj.fr hS.fr hNj).cell]; rfl)) rfl ?_
  refine WL.pv (pv_mul rfl rfl (by rw [← Int.natCast_mul]; omega)) rfl ?_
  refine WL.alloc hS zeroT_3 rfl ?_
  intro b7 w hb7 hS
  refine WL.store (k := 0) hS sizeT_3 rfl rfl rfl rfl (by simp) ?_
  intro w hS
  try simp only [List.set] at hS
  first | rw [show (ar : Int) * (half : Int) = ((ar * half + 0 : Nat) : Int) from by rw [Nat.add_zero, Int.natCast_mul]] at hS | rw [show ((ar * half + i : Nat) : Int) + 1 = ((ar * half + (i + 1) : Nat) : Int) from by omega] at hS
  refine WL.nil ?_
  refine QN.thenW ?_
  refine WC.seq ?_
  refine WC.seq ?_
  refine WC.region ?_
  refine WL.rv (rv_load_blk (k := 5) hS oneT_74 rfl rfl rfl) rfl ?_
  refine WL.pv (pv_move rfl) rfl ?_
  refine WL.call (args := [.tmp 17, .tmp 18]) cf_90 rfl rfl (sectors_c bj ar _) ?_
  rintro _ w ⟨b2, b3, rfl, hS2⟩
  refine ⟨_, rfl, ?_⟩
  replace hS := hS.join hS2
  simp only [List.cons_append, List.nil_append] at hS
  refine WL.nil ?_
  refine QN.thenW ?_
  refine WC.block ?_
  refine WC.rangeF hS rfl cf_106 ?_
  intro a0 fn0 bL bD w hAg hS
  refine ST.nameL hS ?_
  intro rL hrL hS
  refine Calls.mono (sect_c b2 b3 bj bd bn half ar n bL num hold S1 S2 (fun i => sK ss (ar * half) (zB half) i) (fun i w => i ≤ half ∧ ∃ fl vs vp ps, ps.length ≤ 65 * i ∧ (fl = false → ps = []) ∧ ST w0 (Ours (esK bd bn vs0 vp0 n ss [])) w [.obj bL (.loop rL), .obj bD (.deferred (some [])), .blk b3 3 [.int .i64 (ar : Int)], .blk b2 74 [.pointer (some ⟨bj, 0, none⟩)], .blk b7 3 [.int .i64 ((ar * half + i : Nat) : Int)], .blk b6 4 [.bool fl], .blk b5 22 [.slice (some ⟨bz, 0, none⟩) 64 64], .blk bz 5 (bs8 zSec), .blk b4 37 [.int .i64 0], .blk bx 74 [.pointer (some ⟨bj, 0, none⟩)], .blk bd 114 [vs, .slice (some ⟨bn, 0, none⟩) n n, vp, .int .i64 (-1), .bool false], .blk bn 153 (kc (sK ss (ar * half) (zB half) i)), .row vp 155 65 ps]) _ (fun i w hJ => by obtain ⟨hi, fl, vs, vp, ps, _, _, hS⟩ := hJ; exact ⟨hS.cell (k := 3) rfl rfl, hS.cell (k := 2) rfl rfl, hj.fr hS.fr hNj, ⟨_, _, hS.bk (k := 10) rfl⟩, hS.bk (k := 11) rfl, sK_dsk hds (by rw [zB, List.length_replicate]; omega)⟩) hh hds.le ?_ ⟨by omega, false, _, _, [], by simp, fun _ => rfl, hS⟩) ?_
  · skip
    intro i w b w1 hi hJi hFr hBk hge
    obtain ⟨_, fl, vs, vp, ps, hps, hfl, hS⟩ := hJi
    subst hrL
    replace hS := hS.add (e := .blk b 153 _) hFr hBk (fun x hx => by simp [Ent.block] at hx; subst hx; exact hge)
    have hdF : Dsk n (sK ss (ar * half) (zB half) i) := sK_dsk hds (by rw [zB, List.length_replicate]; omega)
    have hdl := hdF.len
    have hdle := hdF.le
    have hsl : ((sK ss (ar * half) (zB half) i).getD (ar * half + i) []).length = 64 := by rw [List.getD_eq_getElem?_getD, List.getElem?_eq_getElem (by omega), Option.getD_some, hdF.all _ (List.getElem_mem _)]
    have hset : sK ss (ar * half) (zB half) (i + 1) = (sK ss (ar * half) (zB half) i).set (ar * half + i) zSec := by rw [sK, zB_at hi]
    refine yieldOk_of hAg rfl (hS.at_ (k := 1) rfl) ?_
    refine WC.region ?_
    refine WL.pv (pv_assign rfl) rfl ?_
    refine WL.nil ?_
    refine QN.beginR (k := 1) hS rfl rfl ?_
    intro w hS
    try simp only [List.set] at hS
    refine WC.block ?_
    refine WC.seq ?_
    refine WC.seq ?_
    by_cases hz : ((sK ss (ar * half) (zB half) i).getD (ar * half + i) []) = zSec
    · skip
      refine WC.region ?_
      refine WL.pv (pv_move rfl) rfl ?_
      refine WL.rv (rv_load_blk (k := 7) hS oneT_22 rfl rfl rfl) rfl ?_
      refine WL.call (args := [.tmp 21, .tmp 22]) cf_96 rfl rfl (eqBytes_c _ _ _ _ _ _ ((sK ss (ar * half) (zB half) i).getD (ar * half + i) []) zSec _ (Bk.rsAll (hS.bk (k := 0) rfl) hsl (by simp [maxLen])) (Bk.rsAll (hS.bk (k := 8) rfl) (by simp [zSec]) (by simp [maxLen]))) ?_
      rintro _ w ⟨rfl, hF⟩
      refine ⟨_, rfl, ?_⟩
      replace hS := hS.no hF
      rw [decide_eq_true hz]
      refine WL.pv (pv_not rfl) rfl ?_
      refine WL.nil ?_
      refine QN.thenW ?_
      refine WC.condF rfl rfl ?_
      refine WC.skip ?_
      refine QN.thenW ?_
      refine WC.region ?_
      refine WL.rv (rv_load_blk (k := 5) hS oneT_3 rfl rfl rfl) rfl ?_
      refine WL.pv (pv_add rfl rfl (by omega)) rfl ?_
      refine WL.store (k := 5) hS sizeT_3 rfl rfl rfl rfl (by simp) ?_
      intro w hS
      try simp only [List.set] at hS
      first | rw [show (ar : Int) * (half : Int) = ((ar * half + 0 : Nat) : Int) from by rw [Nat.add_zero, Int.natCast_mul]] at hS | rw [show ((ar * half + i : Nat) : Int) + 1 = ((ar * half + (i + 1) : Nat) : Int) from by omega] at hS
      refine WL.nil ?_
      refine QN.blockN ?_
      refine QN.endR (k := 1) hS rfl ?_
      intro w hS
      try simp only [List.set] at hS
      first
      | exact ⟨rfl, by omega, true, _, _, _, by omega, by simp, hS.drop⟩
      | exact ⟨rfl, by omega, _, _, _, _, by omega, hfl, by rw [hset, set_same _ _ [] _ (fun _ => hz)]; exact hS.drop⟩
    · skip
      refine WC.region ?_
      refine WL.pv (pv_move rfl) rfl ?_
      refine WL.rv (rv_load_blk (k := 7) hS oneT_22 rfl rfl rfl) rfl ?_
      refine WL.call (args := [.tmp 21, .tmp 22]) cf_96 rfl rfl (eqBytes_c _ _ _ _ _ _ ((sK ss (ar * half) (zB half) i).getD (ar * half + i) []) zSec _ (Bk.rsAll (hS.bk (k := 0) rfl) hsl (by simp [maxLen])) (Bk.rsAll (hS.bk (k := 8) rfl) (by simp [zSec]) (by simp [maxLen]))) ?_
      rintro _ w ⟨rfl, hF⟩
      refine ⟨_, rfl, ?_⟩
      replace hS := hS.no hF
      rw [decide_eq_false hz]
      refine WL.pv (pv_not rfl) rfl ?_
      refine WL.nil ?_
      refine QN.thenW ?_
      refine WC.condT rfl rfl ?_
      refine WC.seq ?_
      refine WC.region ?_
      refine WL.store (k := 6) hS sizeT_4 rfl rfl rfl rfl (by simp) ?_
      intro w hS
      try simp only [List.set] at hS
      refine WL.nil ?_
      refine QN.thenW ?_
      refine WC.seq ?_
      refine WC.np ?_
      refine WC.drawR (S := fun w => w.cell? ⟨bx, 0, none⟩ = some (.pointer (some ⟨bj, 0, none⟩)) ∧ w.cell? ⟨bj, 0, none⟩ = some (.pointer (some ⟨bd, 0, none⟩)) ∧ w.cell? ⟨b7, 0, none⟩ = some (.int .i64 ((ar * half + i : Nat) : Int)) ∧ w.cell? ⟨b5, 0, none⟩ = some (.slice (some ⟨bz, 0, none⟩) 64 64)) (fuel := 8) (listed := #[false, false, false, false, false, false, false, false]) mixedO rfl rfl (by kernel_rfl) (fun _ _ h => h) ?_
      have hS := hS.no (Fr.drew _)
      refine WH.take (listed' := #[true, false, false, false, false, false, false, false]) 0 rfl (by kernel_rfl) (by kernel_rfl) (by kernel_rfl) (fun _ _ _ h => h) rfl (fun w hS => rv_load oneT_74 rfl hS.1) ⟨hS.cell (k := 10) rfl rfl, by rw [(hj.fr hS.fr hNj).cell]; rfl, hS.cell (k := 5) rfl rfl, hS.cell (k := 7) rfl rfl⟩ rfl ?_
      refine WH.take (listed' := #[true, true, false, false, false, false, false, false]) 1 rfl (by kernel_rfl) (by kernel_rfl) (by kernel_rfl) (fun _ _ _ h => h) rfl (fun w _ => PV.rv (pv_nil rfl) w) ⟨hS.cell (k := 10) rfl rfl, by rw [(hj.fr hS.fr hNj).cell]; rfl, hS.cell (k := 5) rfl rfl, hS.cell (k := 7) rfl rfl⟩ rfl ?_
      refine WH.take (listed' := #[true, true, true, false, false, false, false, false]) 2 rfl (by kernel_rfl) (by kernel_rfl) (by kernel_rfl) (fun _ _ _ h => h) rfl (fun w _ => PV.rv (pv_fieldAddr fldT_116_0 rfl) w) ⟨hS.cell (k := 10) rfl rfl, by rw [(hj.fr hS.fr hNj).cell]; rfl, hS.cell (k := 5) rfl rfl, hS.cell (k := 7) rfl rfl⟩ rfl ?_
      refine WH.take (listed' := #[true, true, true, true, false, false, false, false]) 3 rfl (by kernel_rfl) (by kernel_rfl) (by kernel_rfl) (fun _ _ _ h => h) rfl (fun w hS => rv_load oneT_72 rfl hS.2.1) ⟨hS.cell (k := 10) rfl rfl, by rw [(hj.fr hS.fr hNj).cell]; rfl, hS.cell (k := 5) rfl rfl, hS.cell (k := 7) rfl rfl⟩ rfl ?_
      refine WH.take (listed' := #[true, true, true, true, true, false, false, false]) 4 rfl (by kernel_rfl) (by kernel_rfl) (by kernel_rfl) (fun _ _ _ h => h) rfl (fun w hS => rv_load oneT_3 rfl hS.2.2.1) ⟨hS.cell (k := 10) rfl rfl, by rw [(hj.fr hS.fr hNj).cell]; rfl, hS.cell (k := 5) rfl rfl, hS.cell (k := 7) rfl rfl⟩ rfl ?_
      refine WH.take (listed' := #[true, true, true, true, true, true, false, false]) 5 rfl (by kernel_rfl) (by kernel_rfl) (by kernel_rfl) (fun _ _ _ h => h) rfl (fun w hS => rv_load oneT_22 rfl hS.2.2.2) ⟨hS.cell (k := 10) rfl rfl, by rw [(hj.fr hS.fr hNj).cell]; rfl, hS.cell (k := 5) rfl rfl, hS.cell (k := 7) rfl rfl⟩ rfl ?_
      refine WH.one (listed' := #[true, true, true, true, true, true, true, false]) 6 rfl (by kernel_rfl) rfl ?_
      refine WL.call (args := [.tmp 28, .tmp 29, .tmp 30]) cf_75 rfl rfl (writeK_c bd bn vs vp n (sK ss (ar * half) (zB half) i) ps _ (ST.part (fr := [_, _, _, _, _, _, _, _, _, _, _]) (es := (esK bd bn vs vp n (sK ss (ar * half) (zB half) i) ps)) hS) hdF (ar * half + i) (by omega) _ 64 zSec (by simp [zSec]) (Bk.rsAll (hS.bk (k := 8) rfl) (by simp [zSec]) (by simp [maxLen])) (fun b hb => ST.notPart (fr := [_, _, _, _, _, _, _, _, _, _, _]) (es := (esK bd bn vs vp n (sK ss (ar * half) (zB half) i) ps)) hS (k := 8) rfl hb) (by omega)) ?_
      rintro _ w ⟨rfl, vp2, ps2, hps2, hS2⟩
      refine ⟨_, rfl, ?_⟩
      replace hS := ST.call (fr := [_, _, _, _, _, _, _, _, _, _, _]) (es := (esK bd bn vs vp n (sK ss (ar * half) (zB half) i) ps)) hS hS2
      simp only [esK, List.cons_append, List.nil_append] at hS
      rw [← hset] at hS
      refine WL.nil ?_
      refine QN.held ⟨hS.cell (k := 10) rfl rfl, by rw [(hj.fr hS.fr hNj).cell]; rfl, hS.cell (k := 5) rfl rfl, hS.cell (k := 7) rfl rfl⟩ ?_
      refine WH.take (listed' := #[true, true, true, true, true, true, true, true]) 7 rfl (by kernel_rfl) (by kernel_rfl) (by kernel_rfl) (fun _ _ _ h => h) rfl (fun w _ => PV.rv (pv_assign rfl) w) ⟨hS.cell (k := 10) rfl rfl, by rw [(hj.fr hS.fr hNj).cell]; rfl, hS.cell (k := 5) rfl rfl, hS.cell (k := 7) rfl rfl⟩ rfl ?_
      refine WH.done (by kernel_rfl) ?_
      refine QN.np ?_
      refine QN.thenW ?_
      refine WC.seq ?_
      refine WC.region ?_
      refine WL.pv (pv_move rfl) rfl ?_
      refine WL.pv (pv_neq rfl rfl) rfl ?_
      refine WL.nil ?_
      refine QN.thenW ?_
      refine WC.condDF rfl (by simp) ?_
      refine WC.skip ?_
      refine QN.thenW ?_
      refine WC.region ?_
      refine WL.rv (rv_load_blk (k := 5) hS oneT_3 rfl rfl rfl) rfl ?_
      refine WL.pv (pv_add rfl rfl (by omega)) rfl ?_
      refine WL.store (k := 5) hS sizeT_3 rfl rfl rfl rfl (by simp) ?_
      intro w hS
      try simp only [List.set] at hS
      first | rw [show (ar : Int) * (half : Int) = ((ar * half + 0 : Nat) : Int) from by rw [Nat.add_zero, Int.natCast_mul]] at hS | rw [show ((ar * half + i : Nat) : Int) + 1 = ((ar * half + (i + 1) : Nat) : Int) from by omega] at hS
      refine WL.nil ?_
      refine QN.blockN ?_
      refine QN.endR (k := 1) hS rfl ?_
      intro w hS
      try simp only [List.set] at hS
      first
      | exact ⟨rfl, by omega, true, _, _, _, by omega, by simp, hS.drop⟩
      | exact ⟨rfl, by omega, _, _, _, _, by omega, hfl, by rw [hset, set_same _ _ [] _ (fun _ => hz)]; exact hS.drop⟩
  · skip
    rintro _ w ⟨rfl, _, fl, vs1, vp1, ps1, hps, hfl, hS⟩
    subst hrL
    have hdF : Dsk n (sK ss (ar * half) (zB half) half) := sK_dsk hds (by rw [zB, List.length_replicate]; omega)
    refine ⟨⟨_, rfl⟩, .ready, none, (by simp), hS.at_ (k := 0) rfl, ?_⟩
    refine QN.putF (k := 0) hS rfl ?_
    intro w hS
    try simp only [List.set] at hS
    refine QN.blockN ?_
    refine QN.thenW ?_
    refine WC.seq ?_
    refine WC.seq ?_
    by_cases hf : fl = true
    · skip
      subst hf
      refine WC.region ?_
      refine WL.rv (rv_load_blk (k := 5) hS oneT_4 rfl rfl rfl) rfl ?_
      refine WL.pv (pv_not rfl) rfl ?_
      refine WL.nil ?_
      refine QN.thenW ?_
      refine WC.condF rfl rfl ?_
      refine WC.skip ?_
      refine QN.thenW ?_
      refine WC.seq ?_
      refine WC.region ?_
      refine WL.rv (rv_load_blk (k := 9) hS oneT_74 rfl rfl rfl) rfl ?_
      refine WL.pv (pv_nil rfl) rfl ?_
      refine WL.pv (pv_fieldAddr fldT_116_0 rfl) rfl ?_
      refine WL.rv (rv_load oneT_72 rfl (by rw [(hj.fr hS.fr hNj).cell]; rfl)) rfl ?_
      refine WL.call (args := [.tmp 42]) cf_76 rfl rfl (syncK_c bd bn vs1 vp1 n (sK ss (ar * half) (zB half) half) ps1 _ (ST.part (fr := [_, _, _, _, _, _, _, _, _, _]) (es := (esK bd bn vs1 vp1 n (sK ss (ar * half) (zB half) half) ps1)) hS) hdF) ?_
      rintro _ w ⟨rfl, vs2, vp2, hS2⟩
      refine ⟨_, rfl, ?_⟩
      replace hS := ST.call (fr := [_, _, _, _, _, _, _, _, _, _]) (es := (esK bd bn vs1 vp1 n (sK ss (ar * half) (zB half) half) ps1)) hS hS2
      simp only [esK, List.cons_append, List.nil_append] at hS
      refine WL.store (k := 8) hS sizeT_37 rfl rfl rfl rfl (by simp) ?_
      intro w hS
      try simp only [List.set] at hS
      refine WL.nil ?_
      refine QN.thenW ?_
      refine WC.ret ?_
      refine QN.unmark (k := 1) hS rfl rfl ?_
      intro w hS
      try simp only [List.set] at hS
      refine QN.retS (k := 8) rfl rfl hS rfl oneT_37 ?_
      exact ⟨rfl, _, _, hS.sub (.cons _ (.cons _ (.cons _ (.cons _ (.cons _ (.cons _ (.cons _ (.cons _ (.cons _ (.cons _ (.cons_cons _ (.cons_cons _ (.cons_cons _ .slnil)))))))))))))⟩
    · skip
      obtain rfl : fl = false := by simpa using hf
      obtain rfl := hfl rfl
      refine WC.region ?_
      refine WL.rv (rv_load_blk (k := 5) hS oneT_4 rfl rfl rfl) rfl ?_
      refine WL.pv (pv_not rfl) rfl ?_
      refine WL.nil ?_
      refine QN.thenW ?_
      refine WC.condT rfl rfl ?_
      refine WC.seq ?_
      refine WC.region ?_
      refine WL.store (k := 8) hS sizeT_37 rfl rfl rfl rfl (by simp) ?_
      intro w hS
      try simp only [List.set] at hS
      refine WL.nil ?_
      refine QN.thenW ?_
      refine WC.ret ?_
      refine QN.thenR ?_
      refine QN.unmark (k := 1) hS rfl rfl ?_
      intro w hS
      try simp only [List.set] at hS
      refine QN.retS (k := 8) rfl rfl hS rfl oneT_37 ?_
      exact ⟨rfl, _, _, hS.sub (.cons _ (.cons _ (.cons _ (.cons _ (.cons _ (.cons _ (.cons _ (.cons _ (.cons _ (.cons _ (.cons_cons _ (.cons_cons _ (.cons_cons _ .slnil)))))))))))))⟩

end Go.Proofs.Ytjcebkhhgdgohaa
