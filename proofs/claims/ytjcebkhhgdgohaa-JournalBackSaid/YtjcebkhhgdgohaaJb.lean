/- What the functions of the disk and of the journal compute, second part. -/
import Derived.SizedLaws
import Derived.Test.YtjcebkhhgdgohaaJa
namespace Go.Proofs.Ytjcebkhhgdgohaa
open Go Go.RowKit Go.Eng
theorem cf_48 : callable Try.prog 48 = true := by kernel_rfl
theorem cf_49 : callable Try.prog 49 = true := by kernel_rfl
theorem cf_50 : callable Try.prog 50 = true := by kernel_rfl
theorem cf_51 : callable Try.prog 51 = true := by kernel_rfl
theorem cf_52 : callable Try.prog 52 = true := by kernel_rfl
theorem cf_54 : callable Try.prog 54 = true := by kernel_rfl

theorem areaB_zero (n s : Nat) : ∀ i, s + i ≤ n → areaB (List.replicate n zSec) s i = List.replicate (64 * i) 0
  | 0, _ => rfl
  | i + 1, h => by
    rw [areaB_succ, areaB_zero n s i (by omega), List.getD_eq_getElem?_getD, List.getElem?_eq_getElem (by simp; omega), Option.getD_some, List.getElem_replicate, zSec, List.replicate_append_replicate]
    rfl
theorem recH_zero : recH 0 [] [] = List.replicate 10 0 := by decide
def AR0 (_ : Nat) : UInt64 × List UInt8 × List UInt8 := (0, [], [])
theorem AI_zero {n half a : Nat} (h : a * half + half ≤ n) (h1 : 1 ≤ half) : AI (List.replicate n zSec) half a (0, [], []) :=
  ⟨⟨List.replicate (64 * half - 10) 0, by rw [areaB_zero _ _ _ h]; show _ = recH 0 [] [] ++ _; rw [recH_zero, List.replicate_append_replicate]; congr 1; omega, .inl rfl⟩, by simp, by simp⟩
theorem opn_zero : opn AR0 2 = (0, -1, [], []) := by simp [opn, AR0]
theorem Dsk.zero (n : Int) : Dsk (nDisk n) (List.replicate (nDisk n) zSec) := ⟨by simp, KN.rep 64 _, nDisk_le n⟩
theorem AI_new {n : Int} (h : 4 ≤ nDisk n) : ∀ k, k < 2 → AI (List.replicate (nDisk n) zSec) (nDisk n / 2) k (AR0 k) := fun k hk => AI_zero (by rcases (show k = 0 ∨ k = 1 by omega) with rfl | rfl <;> omega) (by omega)

set_option maxRecDepth 100000 in
theorem wakesJ_c (w0 : World) : Calls Try.prog 48 #[] w0 fun e w => e = .returned (.bool true) ∧ Fr No w0 w := by
  have hn4 : 4 ≤ nDisk 4 := by decide
  refine calls_of_WC (args := []) Try.func48 rfl Try.ntmps48 rfl ?_
  show WC _ _ _ _ [] _
  have hS := ST.start w0 No
  refine WC.seq ?_
  refine WC.region ?_
  refine WL.pv (pv_assign rfl) rfl ?_
  refine WL.nil ?_
  refine QN.thenW ?_
  refine WC.seq ?_
  refine WC.region ?_
  refine WL.call (args := [.const (.int .i64 4)]) cf_49 rfl rfl (newK_c 4 _) ?_
  rintro _ w ⟨bd, bn, vs, rfl, hS2⟩
  refine ⟨_, rfl, ?_⟩
  replace hS := hS.join hS2
  simp only [esK, List.append_nil] at hS
  refine WL.call (args := [.tmp 6]) cf_50 rfl rfl (open_c bd bn (nDisk 4) vs (.slice none 0 0) _ (hS.bk (k := 0) rfl) (List.replicate (nDisk 4) zSec) (hS.bk (k := 1) rfl) (Dsk.zero 4) hn4 AR0 (AI_new hn4)) ?_
  rintro _ w ⟨bj, A1, A2, m1, c1, m2, c2, rfl, hS2⟩
  refine ⟨_, rfl, ?_⟩
  replace hS := hS.join hS2
  simp only [opn_zero, List.cons_append, List.nil_append] at hS
  refine WL.pv (pv_move rfl) rfl ?_
  refine WL.pv (pv_extL rfl rfl) rfl ?_
  refine WL.pv (pv_extL rfl rfl) rfl ?_
  refine WL.pv (pv_assign rfl) rfl ?_
  refine WL.pv (pv_assign rfl) rfl ?_
  refine WL.nil ?_
  refine QN.thenW ?_
  refine WC.seq ?_
  refine WC.region ?_
  refine WL.pv (pv_move rfl) rfl ?_
  refine WL.call (args := [.tmp 11]) cf_52 rfl rfl (stateNo_c bj bd (nDisk 4 / 2) 0 (-1) A1 A2 m1 c1 m2 c2 _ (hS.bk (k := 0) rfl) (by omega)) ?_
  rintro _ w ⟨rfl, hF⟩
  refine ⟨_, rfl, ?_⟩
  replace hS := hS.no hF
  refine WL.pv (pv_move rfl) rfl ?_
  refine WL.pv (pv_extL rfl rfl) rfl ?_
  refine WL.pv (pv_extL rfl rfl) rfl ?_
  refine WL.alloc hS zeroT_78 rfl ?_
  intro b3 w hb3 hS
  refine WL.storeAll (k := 0) (vs := [.slice none 0 0, .slice none 0 0]) hS (by rw [sizeT_78]; simp) rfl rfl rfl (by first | (simp; done) | simp [Value.oneCell']) (by simp) ?_
  intro w hS
  try simp only [List.set] at hS
  refine WL.pv (pv_assign rfl) rfl ?_
  refine WL.nil ?_
  refine QN.thenW ?_
  refine WC.seq ?_
  refine WC.region ?_
  refine WL.pv (pv_move rfl) rfl ?_
  refine WL.pv (pv_eql rfl rfl) rfl ?_
  refine WL.pv (pv_move rfl) rfl ?_
  refine WL.guardT rfl rfl rfl (lkT rfl rfl) ?_
  refine WL.pv (pv_move rfl) rfl ?_
  refine WL.guardT rfl rfl rfl (lkT rfl rfl) ?_
  refine WL.pv (pv_not rfl) rfl ?_
  refine WL.pv (pv_pick1 (lkT rfl rfl) rfl) rfl ?_
  refine WL.pv (pv_move rfl) rfl ?_
  refine WL.guardT rfl rfl rfl (lkB rfl rfl) ?_
  refine WL.pv (pv_move rfl) rfl ?_
  refine WL.guardT rfl rfl rfl (lkB rfl rfl) ?_
  refine WL.call (args := [.tmp 22]) cf_54 rfl rfl (room_c bj bd (nDisk 4 / 2) 0 (-1) A1 A2 m1 c1 m2 c2 _ (hS.bk (k := 1) rfl) (by decide)) ?_
  rintro _ w ⟨rfl, hF⟩
  refine ⟨_, rfl, ?_⟩
  replace hS := hS.no hF
  refine WL.guardT rfl rfl rfl (lkB rfl rfl) ?_
  refine WL.pv (pv_eql rfl rfl) rfl ?_
  refine WL.pv (pv_pick1 (lkB rfl rfl) rfl) rfl ?_
  refine WL.pv (pv_assign rfl) rfl ?_
  refine WL.nil ?_
  refine QN.thenW ?_
  refine WC.ret ?_
  refine QN.ret1 rfl rfl ?_
  exact ⟨by rw [decide_eq_true (by decide)], hS.fr⟩

set_option maxRecDepth 100000 in
theorem saveNil_c (x y : Value) (w0 : World) : Calls Try.prog 51 #[.pointer none, .agg #[x, y]] w0 fun e w => e = .returned (.int .i64 15) ∧ Fr No w0 w := by
  refine calls_of_WC (args := [.pointer none, .agg #[x, y]]) Try.func51 rfl Try.ntmps51 rfl ?_
  show WC _ _ _ _ [(0, .pointer none), (1, .agg #[x, y])] _
  have hS := ST.start w0 No
  refine WC.seq ?_
  refine WC.region ?_
  refine WL.box (vs := [x, y]) hS rfl rfl rfl ?_
  intro b3 w hb3 hS
  refine WL.pv (pv_assign rfl) rfl ?_
  refine WL.nil ?_
  refine QN.thenW ?_
  refine WC.seq ?_
  refine WC.block ?_
  refine WC.seq ?_
  refine WC.region ?_
  refine WL.pv (pv_move rfl) rfl ?_
  refine WL.pv (pv_eqlP Try.underlying74 rfl rfl (by simp)) rfl ?_
  refine WL.pv (pv_assign rfl) rfl ?_
  refine WL.nil ?_
  refine QN.thenW ?_
  refine WC.condT rfl rfl ?_
  refine WC.seq ?_
  refine WC.region ?_
  refine WL.pv (pv_assign rfl) rfl ?_
  refine WL.nil ?_
  refine QN.thenW ?_
  refine WC.ret ?_
  refine QN.blockR ?_
  refine QN.thenR ?_
  refine QN.ret1 rfl rfl ?_
  exact ⟨rfl, hS.fr⟩

set_option maxRecDepth 100000 in
theorem journalNil_c (x y : Value) (n : Int) (w0 : World) : Calls Try.prog 17 #[.agg #[x, y], .int .i64 n] w0 fun e w => e = .returned (.bool true) ∧ Fr No w0 w := by
  refine calls_of_WC (args := [.agg #[x, y], .int .i64 n]) Try.func17 rfl Try.ntmps17 rfl ?_
  show WC _ _ _ _ [(0, .agg #[x, y]), (1, .int .i64 n)] _
  have hS := ST.start w0 No
  refine WC.seq ?_
  refine WC.region ?_
  refine WL.box (vs := [x, y]) hS rfl rfl rfl ?_
  intro b2 w hb2 hS
  refine WL.pv (pv_assign rfl) rfl ?_
  refine WL.nil ?_
  refine QN.thenW ?_
  refine WC.seq ?_
  refine WC.region ?_
  refine WL.pv (pv_assign rfl) rfl ?_
  refine WL.nil ?_
  refine QN.thenW ?_
  refine WC.seq ?_
  refine WC.seq ?_
  refine WC.region ?_
  refine WL.call (args := []) cf_48 rfl rfl (wakesJ_c _) ?_
  rintro _ w ⟨rfl, hF⟩
  refine ⟨_, rfl, ?_⟩
  replace hS := hS.no hF
  refine WL.pv (pv_not rfl) rfl ?_
  refine WL.nil ?_
  refine QN.thenW ?_
  refine WC.condF rfl rfl ?_
  refine WC.skip ?_
  refine QN.thenW ?_
  refine WC.seq ?_
  refine WC.region ?_
  refine WL.pv (pv_move rfl) rfl ?_
  refine WL.call (args := [.tmp 15]) cf_52 rfl rfl (stateNil_c _) ?_
  rintro _ w ⟨rfl, hF⟩
  refine ⟨_, rfl, ?_⟩
  replace hS := hS.no hF
  refine WL.pv (pv_move rfl) rfl ?_
  refine WL.pv (pv_extL rfl rfl) rfl ?_
  refine WL.pv (pv_extL rfl rfl) rfl ?_
  refine WL.alloc hS zeroT_78 rfl ?_
  intro b6 w hb6 hS
  refine WL.storeAll (k := 0) (vs := [.slice none 0 0, .slice none 0 0]) hS (by rw [sizeT_78]; simp) rfl rfl rfl (by first | (simp; done) | simp [Value.oneCell']) (by simp) ?_
  intro w hS
  try simp only [List.set] at hS
  refine WL.pv (pv_assign rfl) rfl ?_
  refine WL.nil ?_
  refine QN.thenW ?_
  refine WC.seq ?_
  refine WC.region ?_
  refine WL.call (args := [.const (.pointer none)]) cf_50 rfl rfl (openNil_c _) ?_
  rintro _ w ⟨rfl, hF⟩
  refine ⟨_, rfl, ?_⟩
  replace hS := hS.no hF
  refine WL.pv (pv_move rfl) rfl ?_
  refine WL.pv (pv_extL rfl rfl) rfl ?_
  refine WL.pv (pv_extL rfl rfl) rfl ?_
  refine WL.pv (pv_assign rfl) rfl ?_
  refine WL.pv (pv_assign rfl) rfl ?_
  refine WL.nil ?_
  refine QN.thenW ?_
  refine WC.seq ?_
  by_cases hn : n < 4
  · skip
    refine WC.region ?_
    refine WL.pv (pv_move rfl) rfl ?_
    refine WL.call (args := [.tmp 24]) cf_49 rfl rfl (newK_c n _) ?_
    rintro _ w ⟨bd, bn, vs, rfl, hS2⟩
    refine ⟨_, rfl, ?_⟩
    replace hS := hS.join hS2
    simp only [esK, List.cons_append, List.nil_append] at hS
    refine WL.call (args := [.tmp 25]) cf_50 rfl rfl (openSmall_c bd bn (nDisk n) vs (.slice none 0 0) _ (hS.bk (k := 0) rfl) (by unfold nDisk; omega)) ?_
    rintro _ w ⟨rfl, hF⟩
    refine ⟨_, rfl, ?_⟩
    replace hS := hS.no hF
    refine WL.pv (pv_move rfl) rfl ?_
    refine WL.pv (pv_extL rfl rfl) rfl ?_
    refine WL.pv (pv_extL rfl rfl) rfl ?_
    refine WL.pv (pv_assign rfl) rfl ?_
    refine WL.pv (pv_assign rfl) rfl ?_
    refine WL.nil ?_
    refine QN.thenW ?_
    refine WC.seq ?_
    refine WC.region ?_
    refine WL.pv (pv_move rfl) rfl ?_
    refine WL.pv (pv_not rfl) rfl ?_
    refine WL.pv (pv_move rfl) rfl ?_
    refine WL.guardT rfl rfl rfl (lkB rfl rfl) ?_
    refine WL.pv (pv_move rfl) rfl ?_
    refine WL.guardT rfl rfl rfl (lkB rfl rfl) ?_
    refine WL.rv (rv_load_all (k := 4) hS rfl rfl (by rw [aggT_78]; simp)) rfl ?_
    refine WL.guardT rfl rfl rfl (lkB rfl rfl) ?_
    refine WL.call (args := [.tmp 32, .tmp 33]) cf_51 rfl rfl (saveNil_c _ _ _) ?_
    rintro _ w ⟨rfl, hF⟩
    refine ⟨_, rfl, ?_⟩
    replace hS := hS.no hF
    refine WL.guardT rfl rfl rfl (lkB rfl rfl) ?_
    refine WL.pv (pv_eql rfl rfl) rfl ?_
    refine WL.pv (pv_pick1 (lkB rfl rfl) rfl) rfl ?_
    refine WL.pv (pv_move rfl) rfl ?_
    refine WL.guardT rfl rfl rfl (lkT rfl rfl) ?_
    refine WL.pv (pv_move rfl) rfl ?_
    refine WL.guardT rfl rfl rfl (lkT rfl rfl) ?_
    refine WL.call (args := [.tmp 38]) cf_54 rfl rfl (roomNil_c _) ?_
    rintro _ w ⟨rfl, hF⟩
    refine ⟨_, rfl, ?_⟩
    replace hS := hS.no hF
    refine WL.guardT rfl rfl rfl (lkT rfl rfl) ?_
    refine WL.pv (pv_eql rfl rfl) rfl ?_
    refine WL.pv (pv_pick1 (lkT rfl rfl) rfl) rfl ?_
    refine WL.pv (pv_move rfl) rfl ?_
    refine WL.guardT rfl rfl rfl (lkT rfl rfl) ?_
    refine WL.pv (pv_move rfl) rfl ?_
    refine WL.guardT rfl rfl rfl (lkT rfl rfl) ?_
    refine WL.pv (pv_eql rfl rfl) rfl ?_
    refine WL.pv (pv_pick1 (lkT rfl rfl) rfl) rfl ?_
    refine WL.pv (pv_move rfl) rfl ?_
    refine WL.guardT rfl rfl rfl (lkT rfl rfl) ?_
    refine WL.pv (pv_move rfl) rfl ?_
    refine WL.guardT rfl rfl rfl (lkT rfl rfl) ?_
    refine WL.pv (pv_lss rfl rfl) rfl ?_
    refine WL.guardT rfl rfl rfl (lkT rfl rfl) ?_
    refine WL.pv (pv_move rfl) rfl ?_
    refine WL.guardT rfl rfl rfl (lkT rfl rfl) ?_
    refine WL.pv (pv_eql rfl rfl) rfl ?_
    refine WL.guardT rfl rfl rfl (lkT rfl rfl) ?_
    refine WL.pv (pv_eqlB Try.underlying4 rfl rfl) rfl ?_
    refine WL.pv (pv_pick1 (lkT rfl rfl) rfl) rfl ?_
    refine WL.pv (pv_move rfl) rfl ?_
    refine WL.guardT rfl rfl rfl (lkB rfl (by rw [decide_eq_true hn]; rfl)) ?_
    refine WL.pv (pv_move rfl) rfl ?_
    refine WL.guardT rfl rfl rfl (lkB rfl (by rw [decide_eq_true hn]; rfl)) ?_
    refine WL.pv (pv_eqlP Try.underlying74 rfl rfl (by simp)) rfl ?_
    refine WL.guardT rfl rfl rfl (lkB rfl (by rw [decide_eq_true hn]; rfl)) ?_
    refine WL.pv (pv_move rfl) rfl ?_
    refine WL.guardT rfl rfl rfl (lkB rfl (by rw [decide_eq_true hn]; rfl)) ?_
    refine WL.pv (pv_lss rfl rfl) rfl ?_
    refine WL.guardT rfl rfl rfl (lkB rfl (by rw [decide_eq_true hn]; rfl)) ?_
    refine WL.pv (pv_eqlB Try.underlying4 rfl rfl) rfl ?_
    refine WL.pv (pv_pick1 (lkB rfl (by rw [decide_eq_true hn]; rfl)) rfl) rfl ?_
    refine WL.pv (pv_assign rfl) rfl ?_
    refine WL.nil ?_
    refine QN.thenW ?_
    refine WC.ret ?_
    refine QN.ret1 rfl rfl ?_
    exact ⟨by rw [decide_eq_true hn]; rfl, hS.fr⟩
  · skip
    refine WC.region ?_
    refine WL.pv (pv_move rfl) rfl ?_
    refine WL.call (args := [.tmp 24]) cf_49 rfl rfl (newK_c n _) ?_
    rintro _ w ⟨bd, bn, vs, rfl, hS2⟩
    refine ⟨_, rfl, ?_⟩
    replace hS := hS.join hS2
    simp only [esK, List.cons_append, List.nil_append] at hS
    have hn4 : 4 ≤ nDisk n := by unfold nDisk; omega
    refine WL.call (args := [.tmp 25]) cf_50 rfl rfl (open_c bd bn (nDisk n) vs (.slice none 0 0) _ (hS.bk (k := 0) rfl) (List.replicate (nDisk n) zSec) (hS.bk (k := 1) rfl) (Dsk.zero n) hn4 AR0 (AI_new hn4)) ?_
    rintro _ w ⟨bj, A1, A2, m1, c1, m2, c2, rfl, hS2⟩
    refine ⟨_, rfl, ?_⟩
    replace hS := hS.join hS2
    simp only [opn_zero, List.cons_append, List.nil_append] at hS
    refine WL.pv (pv_move rfl) rfl ?_
    refine WL.pv (pv_extL rfl rfl) rfl ?_
    refine WL.pv (pv_extL rfl rfl) rfl ?_
    refine WL.pv (pv_assign rfl) rfl ?_
    refine WL.pv (pv_assign rfl) rfl ?_
    refine WL.nil ?_
    refine QN.thenW ?_
    refine WC.seq ?_
    refine WC.region ?_
    refine WL.pv (pv_move rfl) rfl ?_
    refine WL.pv (pv_not rfl) rfl ?_
    refine WL.pv (pv_move rfl) rfl ?_
    refine WL.guardT rfl rfl rfl (lkB rfl rfl) ?_
    refine WL.pv (pv_move rfl) rfl ?_
    refine WL.guardT rfl rfl rfl (lkB rfl rfl) ?_
    refine WL.rv (rv_load_all (k := 7) hS rfl rfl (by rw [aggT_78]; simp)) rfl ?_
    refine WL.guardT rfl rfl rfl (lkB rfl rfl) ?_
    refine WL.call (args := [.tmp 32, .tmp 33]) cf_51 rfl rfl (saveNil_c _ _ _) ?_
    rintro _ w ⟨rfl, hF⟩
    refine ⟨_, rfl, ?_⟩
    replace hS := hS.no hF
    refine WL.guardT rfl rfl rfl (lkB rfl rfl) ?_
    refine WL.pv (pv_eql rfl rfl) rfl ?_
    refine WL.pv (pv_pick1 (lkB rfl rfl) rfl) rfl ?_
    refine WL.pv (pv_move rfl) rfl ?_
    refine WL.guardT rfl rfl rfl (lkT rfl rfl) ?_
    refine WL.pv (pv_move rfl) rfl ?_
    refine WL.guardT rfl rfl rfl (lkT rfl rfl) ?_
    refine WL.call (args := [.tmp 38]) cf_54 rfl rfl (roomNil_c _) ?_
    rintro _ w ⟨rfl, hF⟩
    refine ⟨_, rfl, ?_⟩
    replace hS := hS.no hF
    refine WL.guardT rfl rfl rfl (lkT rfl rfl) ?_
    refine WL.pv (pv_eql rfl rfl) rfl ?_
    refine WL.pv (pv_pick1 (lkT rfl rfl) rfl) rfl ?_
    refine WL.pv (pv_move rfl) rfl ?_
    refine WL.guardT rfl rfl rfl (lkT rfl rfl) ?_
    refine WL.pv (pv_move rfl) rfl ?_
    refine WL.guardT rfl rfl rfl (lkT rfl rfl) ?_
    refine WL.pv (pv_eql rfl rfl) rfl ?_
    refine WL.pv (pv_pick1 (lkT rfl rfl) rfl) rfl ?_
    refine WL.pv (pv_move rfl) rfl ?_
    refine WL.guardT rfl rfl rfl (lkT rfl rfl) ?_
    refine WL.pv (pv_move rfl) rfl ?_
    refine WL.guardT rfl rfl rfl (lkT rfl rfl) ?_
    refine WL.pv (pv_lss rfl rfl) rfl ?_
    refine WL.guardT rfl rfl rfl (lkT rfl rfl) ?_
    refine WL.pv (pv_move rfl) rfl ?_
    refine WL.guardT rfl rfl rfl (lkT rfl rfl) ?_
    refine WL.pv (pv_eql rfl rfl) rfl ?_
    refine WL.guardT rfl rfl rfl (lkT rfl rfl) ?_
    refine WL.pv (pv_eqlB Try.underlying4 rfl rfl) rfl ?_
    refine WL.pv (pv_pick1 (lkT rfl rfl) rfl) rfl ?_
    refine WL.pv (pv_move rfl) rfl ?_
    refine WL.guardT rfl rfl rfl (lkB rfl (by rw [decide_eq_false hn]; rfl)) ?_
    refine WL.pv (pv_move rfl) rfl ?_
    refine WL.guardT rfl rfl rfl (lkB rfl (by rw [decide_eq_false hn]; rfl)) ?_
    refine WL.pv (pv_eqlP Try.underlying74 rfl rfl (by simp)) rfl ?_
    refine WL.guardT rfl rfl rfl (lkB rfl (by rw [decide_eq_false hn]; rfl)) ?_
    refine WL.pv (pv_move rfl) rfl ?_
    refine WL.guardT rfl rfl rfl (lkB rfl (by rw [decide_eq_false hn]; rfl)) ?_
    refine WL.pv (pv_lss rfl rfl) rfl ?_
    refine WL.guardT rfl rfl rfl (lkB rfl (by rw [decide_eq_false hn]; rfl)) ?_
    refine WL.pv (pv_eqlB Try.underlying4 rfl rfl) rfl ?_
    refine WL.pv (pv_pick1 (lkB rfl (by rw [decide_eq_false hn]; rfl)) rfl) rfl ?_
    refine WL.pv (pv_assign rfl) rfl ?_
    refine WL.nil ?_
    refine QN.thenW ?_
    refine WC.ret ?_
    refine QN.ret1 rfl rfl ?_
    exact ⟨by rw [decide_eq_false hn]; rfl, hS.fr⟩


/-- A state that came in. -/
theorem st_of_trod {H : Type} {enc : TypeId × Value → H} {w : World} {base fuel : Nat} {cs : List Value} {x : DataW H × List MemPlace} (h : DataW.trod enc Try.prog w base (fun _ => true) true fuel 78 cs = some x) :
    ∃ (A1 A2 : Option Addr) (m1 c1 m2 c2 : Nat) (s1 s2 : List UInt8), cs = [.slice A1 m1 c1, .slice A2 m2 c2] ∧ Rs w (.slice A1 m1 c1) 1 (bs8 s1) ∧ Rs w (.slice A2 m2 c2) 1 (bs8 s2) := by
  have c22 : Try.prog.cellsOf 22 = 1 := by kernel_rfl
  have c5 : Try.prog.cellsOf 5 = 1 := by kernel_rfl
  have hl := (fld_of_trod Try.underlying78 h).1
  rw [show Try.prog.cellsOf 78 = 2 from by kernel_rfl] at hl
  obtain ⟨x0, x1, rfl⟩ : ∃ x0 x1, cs = [x0, x1] := by
    match cs, hl with
    | [x0, x1], _ => exact ⟨x0, x1, rfl⟩
  obtain ⟨_, _, h0⟩ := fld1_of_trod Try.underlying78 h 0 rfl c22 (v := x0) rfl
  obtain ⟨_, _, h1⟩ := fld1_of_trod Try.underlying78 h 1 rfl c22 (v := x1) rfl
  obtain ⟨s1, r1⟩ := rs_of_trod Try.underlying22 Try.underlying5 c5 h0
  obtain ⟨s2, r2⟩ := rs_of_trod Try.underlying22 Try.underlying5 c5 h1
  obtain ⟨A1, m1, c1, rfl, _⟩ := id r1
  obtain ⟨A2, m2, c2, rfl, _⟩ := id r2
  exact ⟨_, _, _, _, _, _, s1, s2, rfl, r1, r2⟩

end Go.Proofs.Ytjcebkhhgdgohaa
namespace Go.Proofs.Ytjcebkhhgdgohaa
open Go Go.RowKit Go.Eng


theorem ST.notPart {w0 w : World} {M : Nat → Prop} {fr es : List Ent} {k : Nat} {e : Ent} (h : ST w0 M w (fr ++ es)) (hk : fr[k]? = some e) {b : Nat} (hb : e.block = some b) : ¬ Ours es b := by
  rintro ⟨f, hf, hfb⟩
  exact (List.pairwise_append.1 h.sep).2.2 e (List.mem_of_getElem? hk) f hf b hb hfb
/-- Sectors written, one behind another. -/
def sK (ss : List (List UInt8)) (s : Nat) (B : List UInt8) : Nat → List (List UInt8)
  | 0 => ss
  | k + 1 => (sK ss s B k).set (s + k) ((B.drop (64 * k)).take 64)
theorem sK_len (ss : List (List UInt8)) (s : Nat) (B : List UInt8) : ∀ k, (sK ss s B k).length = ss.length
  | 0 => rfl
  | k + 1 => by rw [sK, List.length_set, sK_len ss s B k]
theorem getD_set {α : Type} (l : List α) (i j : Nat) (v d : α) : (l.set i v).getD j d = if i = j ∧ j < l.length then v else l.getD j d := by
  rw [List.getD_eq_getElem?_getD, List.getD_eq_getElem?_getD, List.getElem?_set]
  by_cases h : i = j
  · subst h
    by_cases h2 : i < l.length
    · rw [if_pos rfl, if_pos h2, if_pos ⟨rfl, h2⟩]; rfl
    · rw [if_pos rfl, if_neg h2, if_neg (fun h => h2 h.2), List.getElem?_eq_none (by omega)]
  · rw [if_neg h, if_neg (fun h2 => h h2.1)]
theorem sK_out (ss : List (List UInt8)) (s : Nat) (B : List UInt8) (j : Nat) : ∀ k, (j < s ∨ s + k ≤ j) → (sK ss s B k).getD j [] = ss.getD j []
  | 0, _ => rfl
  | k + 1, h => by rw [sK, getD_set, if_neg (fun h2 => by omega), sK_out ss s B j k (by omega)]
theorem sK_in (ss : List (List UInt8)) (s : Nat) (B : List UInt8) (j : Nat) : ∀ k, j < k → s + k ≤ ss.length → (sK ss s B k).getD (s + j) [] = (B.drop (64 * j)).take 64
  | 0, h, _ => by omega
  | k + 1, h, hl => by
    rw [sK, getD_set, sK_len]
    by_cases hj : j = k
    · subst hj; rw [if_pos ⟨rfl, by omega⟩]
    · rw [if_neg (fun h2 => hj (by omega)), sK_in ss s B j k (by omega) (by omega)]
theorem sK_dsk {n : Nat} {ss : List (List UInt8)} {s : Nat} {B : List UInt8} (h : Dsk n ss) : ∀ {k : Nat}, 64 * k ≤ B.length → Dsk n (sK ss s B k)
  | 0, _ => h
  | k + 1, hk => (sK_dsk h (by omega)).set _ (by rw [List.length_take, List.length_drop]; omega)
def zB (half : Nat) : List UInt8 := List.replicate (64 * half) 0
theorem zB_at {half k : Nat} (h : k < half) : ((zB half).drop (64 * k)).take 64 = zSec := by
  rw [zB, List.drop_replicate, List.take_replicate, zSec, show min 64 (64 * half - 64 * k) = 64 from by omega]
theorem set_same {α : Type} (l : List α) (i : Nat) (d : α) (v : α) (h : i < l.length → l.getD i d = v) : l.set i v = l := by
  apply List.ext_getElem?
  intro j
  rw [List.getElem?_set]
  by_cases hj : i = j
  · subst hj
    by_cases h2 : i < l.length
    · rw [if_pos rfl, if_pos h2, ← h h2, List.getD_eq_getElem?_getD, List.getElem?_eq_getElem h2]; rfl
    · rw [if_pos rfl, if_neg h2, List.getElem?_eq_none (by omega)]
  · rw [if_neg hj]
theorem ba_eq (a b : List UInt8) : ((ByteArray.mk a.toArray).toList == (ByteArray.mk b.toArray).toList) = decide (a = b) := by
  have h (l : List UInt8) : (ByteArray.mk l.toArray).toList = l := by
    rw [ByteArray.toList_eq]
  rw [h, h]
  by_cases hab : a = b
  · subst hab; simp
  · rw [decide_eq_false hab]; simpa using hab

set_option maxRecDepth 100000 in
theorem eqBytes_c (A B : Option Addr) (m c m2 c2 : Nat) (la lb : List UInt8) (w0 : World) (ha : Rs w0 (.slice A m c) 1 (bs8 la)) (hb : Rs w0 (.slice B m2 c2) 1 (bs8 lb)) : Calls Try.prog 96 #[.slice A m c, .slice B m2 c2] w0 fun e w => e = .returned (.bool (decide (la = lb))) ∧ Fr No w0 w := by
  refine calls_of_WC (args := [.slice A m c, .slice B m2 c2]) Try.func96 rfl Try.ntmps96 rfl ?_
  show WC _ _ _ _ [(0, .slice A m c), (1, .slice B m2 c2)] _
  have hS := ST.start w0 No
  refine WC.seq ?_
  refine WC.region ?_
  refine WL.pv (pv_assign rfl) rfl ?_
  refine WL.nil ?_
  refine QN.thenW ?_
  refine WC.seq ?_
  refine WC.region ?_
  refine WL.pv (pv_move rfl) rfl ?_
  refine WL.rv (rv_convBytes Try.underlying22 Try.underlying5 Try.underlying9 rfl ha) rfl ?_
  refine WL.pv (pv_move rfl) rfl ?_
  refine WL.rv (rv_convBytes Try.underlying22 Try.underlying5 Try.underlying9 rfl hb) rfl ?_
  refine WL.pv (pv_eqlStr rfl rfl) rfl ?_
  refine WL.pv (pv_assign rfl) rfl ?_
  refine WL.nil ?_
  refine QN.thenW ?_
  refine WC.ret ?_
  refine QN.ret1 rfl rfl ?_
  exact ⟨by rw [ba_eq], hS.fr⟩

end Go.Proofs.Ytjcebkhhgdgohaa
namespace Go.Proofs.Ytjcebkhhgdgohaa
open Go Go.RowKit Go.Eng
theorem cf_75 : callable Try.prog 75 = true := by kernel_rfl
theorem cf_76 : callable Try.prog 76 = true := by kernel_rfl
theorem cf_96 : callable Try.prog 96 = true := by kernel_rfl
theorem oneT_37 : oneT Try.prog 37 = true := by kernel_rfl
theorem sizeT_37 : sizeT Try.prog 37 = some 1 := by kernel_rfl
theorem sizeT_4 : sizeT Try.prog 4 = some 1 := by kernel_rfl
theorem zeroT_37 : zeroT Try.prog 37 = some ([.int .i64 0]) := by kernel_rfl
theorem zeroT_4 : zeroT Try.prog 4 = some ([.bool false]) := by kernel_rfl
set_option maxHeartbeats 1000000 in
set_option maxRecDepth 100000 in
theorem clear_c (bj bd bn half ar n : Nat) (num : UInt64) (hold : Int) (S1 S2 vs0 vp0 : Value) (ss : List (List UInt8)) (w0 : World) (hj : Bk w0 bj 116 [.pointer (some ⟨bd, 0, none⟩), .int .i64 (half : Int), w64 num, .int .i64 hold, S1, S2]) (hNj : ¬ Ours (esK bd bn vs0 vp0 n ss []) bj) (h0 : ST w0 (Ours (esK bd bn vs0 vp0 n ss [])) w0 (esK bd bn vs0 vp0 n ss [])) (hds : Dsk n ss) (hh : ar * half + half ≤ n) : Calls Try.prog 74 #[.pointer (some ⟨bj, 0, none⟩), .int .i64 (ar : Int)] w0 fun e w => e = .returned (.int .i64 0) ∧ ∃ vs vp, ST w0 (Ours (esK bd bn vs0 vp0 n ss [])) w (esK bd bn vs vp n (sK ss (ar * half) (zB half) half) []) := by
  have hdl0 := hds.len
  have hdle0 := hds.le
  refine calls_of_WCM (args := [.pointer (some ⟨bj, 0, none⟩), .int .i64 (ar : Int)]) Try.func74 rfl Try.ntmps74 rfl ?_
  show WC _ _ _ _ [(0, .pointer (some ⟨bj, 0, none⟩)), (1, .int .i64 (ar : Int))] _
  have hS : ST w0 (Ours (esK bd bn vs0 vp0 n ss [])) w0 (esK bd bn vs0 vp0 n ss []) := h0
  unfold esK at hS
  refine WC.seq ?_
  refine WC.region ?_
  refine WL.box (vs := _) hS rfl rfl rfl ?_
  intro bx w hbx hS
  refine WL.alloc hS zeroT_37 rfl ?_
  intro b4 w hb4 hS
  refine WL.nil ?_
  refine QN.thenW ?_
  refine WC.seq ?_
  refine WC.region ?_
  refine WL.makeB (c := 64) hS slT_22 zeroT_5 (by simp) rfl rfl (by omega) (by simp [maxLen]) rfl ?_
  intro bz w hbz hS
  rw [show (List.replicate 64 [b8 0]).flatten = bs8 zSec from by rw [zSec]; simp [bs8]] at hS
  refine WL.alloc hS zeroT_22 rfl ?_
  intro b5 w hb5 hS
  refine WL.store (k := 0) hS sizeT_22 rfl rfl rfl rfl (by simp) ?_
  intro w hS
  try simp only [List.set] at hS
  refine WL.nil ?_
  refine QN.thenW ?_
  refine WC.seq ?_
  refine WC.region ?_
  refine WL.alloc hS zeroT_4 rfl ?_
  intro b6 w hb6 hS
  refine WL.store (k := 0) hS sizeT_4 rfl rfl rfl rfl (by simp) ?_
  intro w hS
  try simp only [List.set] at hS
  refine WL.nil ?_
  refine QN.thenW ?_
  refine WC.seq ?_
  refine WC.region ?_
  refine WL.pv (pv_move rfl) rfl ?_
  refine WL.rv (rv_load_blk (k := 4) hS oneT_74 rfl rfl rfl) rfl ?_
  refine WL.pv (pv_nil rfl) rfl ?_
  refine WL.pv (pv_fieldAddr fldT_116_1 rfl) rfl ?_
  refine WL.rv (rv_load oneT_3 rfl (by rw [(hj.fr hS.fr hNj).cell]; rfl)) rfl ?_
  refine WL.pv (pv_mul rfl rfl (by rw [← Int.natCast_mul]; omega)) rfl ?_
  refine WL.alloc hS zeroT_3 rfl ?_
  intro b7 w hb7 hS
  refine WL.store (k := 0) hS sizeT_3 rfl rfl rfl rfl (by simp) ?_
  intro w hS
  try simp only [List.set] at hS
  first | rw [show (ar : Int) * (half : Int) = ((ar * half + 0 : Nat) : Int) from by rw [Nat.add_zero, Int.natCast_mul]] at hS | rw [show ((ar * half + i : Nat) : Int) + 1 = ((ar * half + (i + 1) : Nat) : Int) from by omega] at hS
  refine WL.nil ?_
  refine QN.thenW ?_
  refine WC.seq ?_
  refine WC.seq ?_
  refine WC.region ?_
  refine WL.rv (rv_load_blk (k := 5) hS oneT_74 rfl rfl rfl) rfl ?_
  refine WL.pv (pv_move rfl) rfl ?_
  refine WL.call (args := [.tmp 17, .tmp 18]) cf_90 rfl rfl (sectors_c bj ar _) ?_
  rintro _ w ⟨b2, b3, rfl, hS2⟩
  refine ⟨_, rfl, ?_⟩
  replace hS := hS.join hS2
  simp only [List.cons_append, List.nil_append] at hS
  refine WL.nil ?_
  refine QN.thenW ?_
  refine WC.block ?_
  refine WC.rangeF hS rfl cf_106 ?_
  intro a0 fn0 bL bD w hAg hS
  refine ST.nameL hS ?_
  intro rL hrL hS
  refine Calls.mono (sect_c b2 b3 bj bd bn half ar n bL num hold S1 S2 (fun i => sK ss (ar * half) (zB half) i) (fun i w => i ≤ half ∧ ∃ fl vs vp ps, ps.length ≤ 65 * i ∧ (fl = false → ps = []) ∧ ST w0 (Ours (esK bd bn vs0 vp0 n ss [])) w [.obj bL (.loop rL), .obj bD (.deferred (some [])), .blk b3 3 [.int .i64 (ar : Int)], .blk b2 74 [.pointer (some ⟨bj, 0, none⟩)], .blk b7 3 [.int .i64 ((ar * half + i : Nat) : Int)], .blk b6 4 [.bool fl], .blk b5 22 [.slice (some ⟨bz, 0, none⟩) 64 64], .blk bz 5 (bs8 zSec), .blk b4 37 [.int .i64 0], .blk bx 74 [.pointer (some ⟨bj, 0, none⟩)], .blk bd 114 [vs, .slice (some ⟨bn, 0, none⟩) n n, vp, .int .i64 (-1), .bool false], .blk bn 153 (kc (sK ss (ar * half) (zB half) i)), .row vp 155 65 ps]) _ (fun i w hJ => by obtain ⟨hi, fl, vs, vp, ps, _, _, hS⟩ := hJ; exact ⟨hS.cell (k := 3) rfl rfl, hS.cell (k := 2) rfl rfl, hj.fr hS.fr hNj, ⟨_, _, hS.bk (k := 10) rfl⟩, hS.bk (k := 11) rfl, sK_dsk hds (by rw [zB, List.length_replicate]; omega)⟩) hh hds.le ?_ ⟨by omega, false, _, _, [], by simp, fun _ => rfl, hS⟩) ?_
  · skip
    intro i w b w1 hi hJi hFr hBk hge
    obtain ⟨_, fl, vs, vp, ps, hps, hfl, hS⟩ := hJi
    subst hrL
    replace hS := hS.add (e := .blk b 153 _) hFr hBk (fun x hx => by simp [Ent.block] at hx; subst hx; exact hge)
    have hdF : Dsk n (sK ss (ar * half) (zB half) i) := sK_dsk hds (by rw [zB, List.length_replicate]; omega)
    have hdl := hdF.len
    have hdle := hdF.le
    have hsl : ((sK ss (ar * half) (zB half) i).getD (ar * half + i) []).length = 64 := by rw [List.getD_eq_getElem?_getD, List.getElem?_eq_getElem (by omega), Option.getD_some, hdF.all _ (List.getElem_mem _)]
    have hset : sK ss (ar * half) (zB half) (i + 1) = (sK ss (ar * half) (zB half) i).set (ar * half + i) zSec := by rw [sK, zB_at hi]
    refine yieldOk_of hAg rfl (hS.at_ (k := 1) rfl) ?_
    refine WC.region ?_
    refine WL.pv (pv_assign rfl) rfl ?_
    refine WL.nil ?_
    refine QN.beginR (k := 1) hS rfl rfl ?_
    intro w hS
    try simp only [List.set] at hS
    refine WC.block ?_
    refine WC.seq ?_
    refine WC.seq ?_
    by_cases hz : ((sK ss (ar * half) (zB half) i).getD (ar * half + i) []) = zSec
    · skip
      refine WC.region ?_
      refine WL.pv (pv_move rfl) rfl ?_
      refine WL.rv (rv_load_blk (k := 7) hS oneT_22 rfl rfl rfl) rfl ?_
      refine WL.call (args := [.tmp 21, .tmp 22]) cf_96 rfl rfl (eqBytes_c _ _ _ _ _ _ ((sK ss (ar * half) (zB half) i).getD (ar * half + i) []) zSec _ (Bk.rsAll (hS.bk (k := 0) rfl) hsl (by simp [maxLen])) (Bk.rsAll (hS.bk (k := 8) rfl) (by simp [zSec]) (by simp [maxLen]))) ?_
      rintro _ w ⟨rfl, hF⟩
      refine ⟨_, rfl, ?_⟩
      replace hS := hS.no hF
      rw [decide_eq_true hz]
      refine WL.pv (pv_not rfl) rfl ?_
      refine WL.nil ?_
      refine QN.thenW ?_
      refine WC.condF rfl rfl ?_
      refine WC.skip ?_
      refine QN.thenW ?_
      refine WC.region ?_
      refine WL.rv (rv_load_blk (k := 5) hS oneT_3 rfl rfl rfl) rfl ?_
      refine WL.pv (pv_add rfl rfl (by omega)) rfl ?_
      refine WL.store (k := 5) hS sizeT_3 rfl rfl rfl rfl (by simp) ?_
      intro w hS
      try simp only [List.set] at hS
      first | rw [show (ar : Int) * (half : Int) = ((ar * half + 0 : Nat) : Int) from by rw [Nat.add_zero, Int.natCast_mul]] at hS | rw [show ((ar * half + i : Nat) : Int) + 1 = ((ar * half + (i + 1) : Nat) : Int) from by omega] at hS
      refine WL.nil ?_
      refine QN.blockN ?_
      refine QN.endR (k := 1) hS rfl ?_
      intro w hS
      try simp only [List.set] at hS
      first
      | exact ⟨rfl, by omega, true, _, _, _, by omega, by simp, hS.drop⟩
      | exact ⟨rfl, by omega, _, _, _, _, by omega, hfl, by rw [hset, set_same _ _ [] _ (fun _ => hz)]; exact hS.drop⟩
    · skip
      refine WC.region ?_
      refine WL.pv (pv_move rfl) rfl ?_
      refine WL.rv (rv_load_blk (k := 7) hS oneT_22 rfl rfl rfl) rfl ?_
      refine WL.call (args := [.tmp 21, .tmp 22]) cf_96 rfl rfl (eqBytes_c _ _ _ _ _ _ ((sK ss (ar * half) (zB half) i).getD (ar * half + i) []) zSec _ (Bk.rsAll (hS.bk (k := 0) rfl) hsl (by simp [maxLen])) (Bk.rsAll (hS.bk (k := 8) rfl) (by simp [zSec]) (by simp [maxLen]))) ?_
      rintro _ w ⟨rfl, hF⟩
      refine ⟨_, rfl, ?_⟩
      replace hS := hS.no hF
      rw [decide_eq_false hz]
      refine WL.pv (pv_not rfl) rfl ?_
      refine WL.nil ?_
      refine QN.thenW ?_
      refine WC.condT rfl rfl ?_
      refine WC.seq ?_
      refine WC.region ?_
      refine WL.store (k := 6) hS sizeT_4 rfl rfl rfl rfl (by simp) ?_
      intro w hS
      try simp only [List.set] at hS
      refine WL.nil ?_
      refine QN.thenW ?_
      refine WC.seq ?_
      refine WC.np ?_
      refine WC.drawR (S := fun w => w.cell? ⟨bx, 0, none⟩ = some (.pointer (some ⟨bj, 0, none⟩)) ∧ w.cell? ⟨bj, 0, none⟩ = some (.pointer (some ⟨bd, 0, none⟩)) ∧ w.cell? ⟨b7, 0, none⟩ = some (.int .i64 ((ar * half + i : Nat) : Int)) ∧ w.cell? ⟨b5, 0, none⟩ = some (.slice (some ⟨bz, 0, none⟩) 64 64)) (fuel := 8) (listed := #[false, false, false, false, false, false, false, false]) mixedO rfl rfl (by kernel_rfl) (fun _ _ h => h) ?_
      have hS := hS.no (Fr.drew _)
      refine WH.take (listed' := #[true, false, false, false, false, false, false, false]) 0 rfl (by kernel_rfl) (by kernel_rfl) (by kernel_rfl) (fun _ _ _ h => h) rfl (fun w hS => rv_load oneT_74 rfl hS.1) ⟨hS.cell (k := 10) rfl rfl, by rw [(hj.fr hS.fr hNj).cell]; rfl, hS.cell (k := 5) rfl rfl, hS.cell (k := 7) rfl rfl⟩ rfl ?_
      refine WH.take (listed' := #[true, true, false, false, false, false, false, false]) 1 rfl (by kernel_rfl) (by kernel_rfl) (by kernel_rfl) (fun _ _ _ h => h) rfl (fun w _ => PV.rv (pv_nil rfl) w) ⟨hS.cell (k := 10) rfl rfl, by rw [(hj.fr hS.fr hNj).cell]; rfl, hS.cell (k := 5) rfl rfl, hS.cell (k := 7) rfl rfl⟩ rfl ?_
      refine WH.take (listed' := #[true, true, true, false, false, false, false, false]) 2 rfl (by kernel_rfl) (by kernel_rfl) (by kernel_rfl) (fun _ _ _ h => h) rfl (fun w _ => PV.rv (pv_fieldAddr fldT_116_0 rfl) w) ⟨hS.cell (k := 10) rfl rfl, by rw [(hj.fr hS.fr hNj).cell]; rfl, hS.cell (k := 5) rfl rfl, hS.cell (k := 7) rfl rfl⟩ rfl ?_
      refine WH.take (listed' := #[true, true, true, true, false, false, false, false]) 3 rfl (by kernel_rfl) (by kernel_rfl) (by kernel_rfl) (fun _ _ _ h => h) rfl (fun w hS => rv_load oneT_72 rfl hS.2.1) ⟨hS.cell (k := 10) rfl rfl, by rw [(hj.fr hS.fr hNj).cell]; rfl, hS.cell (k := 5) rfl rfl, hS.cell (k := 7) rfl rfl⟩ rfl ?_
      refine WH.take (listed' := #[true, true, true, true, true, false, false, false]) 4 rfl (by kernel_rfl) (by kernel_rfl) (by kernel_rfl) (fun _ _ _ h => h) rfl (fun w hS => rv_load oneT_3 rfl hS.2.2.1) ⟨hS.cell (k := 10) rfl rfl, by rw [(hj.fr hS.fr hNj).cell]; rfl, hS.cell (k := 5) rfl rfl, hS.cell (k := 7) rfl rfl⟩ rfl ?_
      refine WH.take (listed' := #[true, true, true, true, true, true, false, false]) 5 rfl (by kernel_rfl) (by kernel_rfl) (by kernel_rfl) (fun _ _ _ h => h) rfl (fun w hS => rv_load oneT_22 rfl hS.2.2.2) ⟨hS.cell (k := 10) rfl rfl, by rw [(hj.fr hS.fr hNj).cell]; rfl, hS.cell (k := 5) rfl rfl, hS.cell (k := 7) rfl rfl⟩ rfl ?_
      refine WH.one (listed' := #[true, true, true, true, true, true, true, false]) 6 rfl (by kernel_rfl) rfl ?_
      refine WL.call (args := [.tmp 28, .tmp 29, .tmp 30]) cf_75 rfl rfl (writeK_c bd bn vs vp n (sK ss (ar * half) (zB half) i) ps _ (ST.part (fr := [_, _, _, _, _, _, _, _, _, _, _]) (es := (esK bd bn vs vp n (sK ss (ar * half) (zB half) i) ps)) hS) hdF (ar * half + i) (by omega) _ 64 zSec (by simp [zSec]) (Bk.rsAll (hS.bk (k := 8) rfl) (by simp [zSec]) (by simp [maxLen])) (fun b hb => ST.notPart (fr := [_, _, _, _, _, _, _, _, _, _, _]) (es := (esK bd bn vs vp n (sK ss (ar * half) (zB half) i) ps)) hS (k := 8) rfl hb) (by omega)) ?_
      rintro _ w ⟨rfl, vp2, ps2, hps2, hS2⟩
      refine ⟨_, rfl, ?_⟩
      replace hS := ST.call (fr := [_, _, _, _, _, _, _, _, _, _, _]) (es := (esK bd bn vs vp n (sK ss (ar * half) (zB half) i) ps)) hS hS2
      simp only [esK, List.cons_append, List.nil_append] at hS
      rw [← hset] at hS
      refine WL.nil ?_
      refine QN.held ⟨hS.cell (k := 10) rfl rfl, by rw [(hj.fr hS.fr hNj).cell]; rfl, hS.cell (k := 5) rfl rfl, hS.cell (k := 7) rfl rfl⟩ ?_
      refine WH.take (listed' := #[true, true, true, true, true, true, true, true]) 7 rfl (by kernel_rfl) (by kernel_rfl) (by kernel_rfl) (fun _ _ _ h => h) rfl (fun w _ => PV.rv (pv_assign rfl) w) ⟨hS.cell (k := 10) rfl rfl, by rw [(hj.fr hS.fr hNj).cell]; rfl, hS.cell (k := 5) rfl rfl, hS.cell (k := 7) rfl rfl⟩ rfl ?_
      refine WH.done (by kernel_rfl) ?_
      refine QN.np ?_
      refine QN.thenW ?_
      refine WC.seq ?_
      refine WC.region ?_
      refine WL.pv (pv_move rfl) rfl ?_
      refine WL.pv (pv_neq rfl rfl) rfl ?_
      refine WL.nil ?_
      refine QN.thenW ?_
      refine WC.condDF rfl (by simp) ?_
      refine WC.skip ?_
      refine QN.thenW ?_
      refine WC.region ?_
      refine WL.rv (rv_load_blk (k := 5) hS oneT_3 rfl rfl rfl) rfl ?_
      refine WL.pv (pv_add rfl rfl (by omega)) rfl ?_
      refine WL.store (k := 5) hS sizeT_3 rfl rfl rfl rfl (by simp) ?_
      intro w hS
      try simp only [List.set] at hS
      first | rw [show (ar : Int) * (half : Int) = ((ar * half + 0 : Nat) : Int) from by rw [Nat.add_zero, Int.natCast_mul]] at hS | rw [show ((ar * half + i : Nat) : Int) + 1 = ((ar * half + (i + 1) : Nat) : Int) from by omega] at hS
      refine WL.nil ?_
      refine QN.blockN ?_
      refine QN.endR (k := 1) hS rfl ?_
      intro w hS
      try simp only [List.set] at hS
      first
      | exact ⟨rfl, by omega, true, _, _, _, by omega, by simp, hS.drop⟩
      | exact ⟨rfl, by omega, _, _, _, _, by omega, hfl, by rw [hset, set_same _ _ [] _ (fun _ => hz)]; exact hS.drop⟩
  · skip
    rintro _ w ⟨rfl, _, fl, vs1, vp1, ps1, hps, hfl, hS⟩
    subst hrL
    have hdF : Dsk n (sK ss (ar * half) (zB half) half) := sK_dsk hds (by rw [zB, List.length_replicate]; omega)
    refine ⟨⟨_, rfl⟩, .ready, none, (by simp), hS.at_ (k := 0) rfl, ?_⟩
    refine QN.putF (k := 0) hS rfl ?_
    intro w hS
    try simp only [List.set] at hS
    refine QN.blockN ?_
    refine QN.thenW ?_
    refine WC.seq ?_
    refine WC.seq ?_
    by_cases hf : fl = true
    · skip
      subst hf
      refine WC.region ?_
      refine WL.rv (rv_load_blk (k := 5) hS oneT_4 rfl rfl rfl) rfl ?_
      refine WL.pv (pv_not rfl) rfl ?_
      refine WL.nil ?_
      refine QN.thenW ?_
      refine WC.condF rfl rfl ?_
      refine WC.skip ?_
      refine QN.thenW ?_
      refine WC.seq ?_
      refine WC.region ?_
      refine WL.rv (rv_load_blk (k := 9) hS oneT_74 rfl rfl rfl) rfl ?_
      refine WL.pv (pv_nil rfl) rfl ?_
      refine WL.pv (pv_fieldAddr fldT_116_0 rfl) rfl ?_
      refine WL.rv (rv_load oneT_72 rfl (by rw [(hj.fr hS.fr hNj).cell]; rfl)) rfl ?_
      refine WL.call (args := [.tmp 42]) cf_76 rfl rfl (syncK_c bd bn vs1 vp1 n (sK ss (ar * half) (zB half) half) ps1 _ (ST.part (fr := [_, _, _, _, _, _, _, _, _, _]) (es := (esK bd bn vs1 vp1 n (sK ss (ar * half) (zB half) half) ps1)) hS) hdF) ?_
      rintro _ w ⟨rfl, vs2, vp2, hS2⟩
      refine ⟨_, rfl, ?_⟩
      replace hS := ST.call (fr := [_, _, _, _, _, _, _, _, _, _]) (es := (esK bd bn vs1 vp1 n (sK ss (ar * half) (zB half) half) ps1)) hS hS2
      simp only [esK, List.cons_append, List.nil_append] at hS
      refine WL.store (k := 8) hS sizeT_37 rfl rfl rfl rfl (by simp) ?_
      intro w hS
      try simp only [List.set] at hS
      refine WL.nil ?_
      refine QN.thenW ?_
      refine WC.ret ?_
      refine QN.unmark (k := 1) hS rfl rfl ?_
      intro w hS
      try simp only [List.set] at hS
      refine QN.retS (k := 8) rfl rfl hS rfl oneT_37 ?_
      exact ⟨rfl, _, _, hS.sub (.cons _ (.cons _ (.cons _ (.cons _ (.cons _ (.cons _ (.cons _ (.cons _ (.cons _ (.cons _ (.cons_cons _ (.cons_cons _ (.cons_cons _ .slnil)))))))))))))⟩
    · skip
      obtain rfl : fl = false := by simpa using hf
      obtain rfl := hfl rfl
      refine WC.region ?_
      refine WL.rv (rv_load_blk (k := 5) hS oneT_4 rfl rfl rfl) rfl ?_
      refine WL.pv (pv_not rfl) rfl ?_
      refine WL.nil ?_
      refine QN.thenW ?_
      refine WC.condT rfl rfl ?_
      refine WC.seq ?_
      refine WC.region ?_
      refine WL.store (k := 8) hS sizeT_37 rfl rfl rfl rfl (by simp) ?_
      intro w hS
      try simp only [List.set] at hS
      refine WL.nil ?_
      refine QN.thenW ?_
      refine WC.ret ?_
      refine QN.thenR ?_
      refine QN.unmark (k := 1) hS rfl rfl ?_
      intro w hS
      try simp only [List.set] at hS
      refine QN.retS (k := 8) rfl rfl hS rfl oneT_37 ?_
      exact ⟨rfl, _, _, hS.sub (.cons _ (.cons _ (.cons _ (.cons _ (.cons _ (.cons _ (.cons _ (.cons _ (.cons _ (.cons _ (.cons_cons _ (.cons_cons _ (.cons_cons _ .slnil)))))))))))))⟩

end Go.Proofs.Ytjcebkhhgdgohaa
namespace Go.Proofs.Ytjcebkhhgdgohaa
open Go Go.RowKit Go.Eng
theorem cf_73 : callable Try.prog 73 = true := by kernel_rfl
theorem cf_74 : callable Try.prog 74 = true := by kernel_rfl

/-- A journal in memory. -/
def esJ (bj bd half : Nat) (num : UInt64) (hold : Int) (V1 V2 : Value) (t1 t2 : List UInt8) (bn : Nat) (vs vp : Value) (n : Nat) (ss : List (List UInt8)) : List Ent :=
  .blk bj 116 [.pointer (some ⟨bd, 0, none⟩), .int .i64 (half : Int), w64 num, .int .i64 hold, V1, V2] :: .row V1 5 1 (bs8 t1) :: .row V2 5 1 (bs8 t2) :: esK bd bn vs vp n ss []
/-- What a save does to the sectors. -/
def Sav (ss ss' : List (List UInt8)) (half ar : Nat) (num : UInt64) (s1 s2 : List UInt8) : Prop :=
  ∃ j q, (recB num s1 s2).length + j = 64 * q ∧ q ≤ half ∧ ss' = sK (sK ss (ar * half) (zB half) half) (ar * half) (recB num s1 s2 ++ List.replicate j 0) q

set_option maxRecDepth 100000 in
theorem saveFull_c (bj bd half : Nat) (num : UInt64) (hold : Int) (A1 A2 : Option Addr) (m1 c1 m2 c2 : Nat) (t1 t2 : List UInt8) (bn : Nat) (vs vp : Value) (n : Nat) (ss : List (List UInt8)) (w0 : World) (h0 : ST w0 (Ours (esJ bj bd half num hold (.slice A1 m1 c1) (.slice A2 m2 c2) t1 t2 bn vs vp n ss)) w0 (esJ bj bd half num hold (.slice A1 m1 c1) (.slice A2 m2 c2) t1 t2 bn vs vp n ss)) (hnum : num.toNat ≤ 1000) (hds : Dsk n ss) (B1 B2 : Option Addr) (k1 d1 k2 d2 : Nat) (s1 s2 : List UInt8) (r1 : Rs w0 (.slice B1 k1 d1) 1 (bs8 s1)) (r2 : Rs w0 (.slice B2 k2 d2) 1 (bs8 s2)) (hN1 : 0 < (bs8 s1).length → ∀ b, (Value.slice B1 k1 d1).ownBlock = some b → ¬ Ours (esJ bj bd half num hold (.slice A1 m1 c1) (.slice A2 m2 c2) t1 t2 bn vs vp n ss) b) (hN2 : 0 < (bs8 s2).length → ∀ b, (Value.slice B2 k2 d2).ownBlock = some b → ¬ Ours (esJ bj bd half num hold (.slice A1 m1 c1) (.slice A2 m2 c2) t1 t2 bn vs vp n ss) b) (hl1 : s1.length ≤ 4000) (hl2 : s2.length ≤ 4000) (hhalf : half ≤ 2048) (hfit : 64 * half < (recB (num + 1) s1 s2).length) : Calls Try.prog 51 #[.pointer (some ⟨bj, 0, none⟩), .agg #[.slice B1 k1 d1, .slice B2 k2 d2]] w0 fun e w => e = .returned (.int .i64 7) ∧ ST w0 (Ours (esJ bj bd half num hold (.slice A1 m1 c1) (.slice A2 m2 c2) t1 t2 bn vs vp n ss)) w (esJ bj bd half num hold (.slice A1 m1 c1) (.slice A2 m2 c2) t1 t2 bn vs vp n ss) := by
  have hdle := hds.le
  have hln1 := r1.len
  have hln2 := r2.len
  rw [bs8_len] at hln1 hln2
  have hnum1 : (num + 1).toNat = num.toNat + 1 := by rw [UInt64.toNat_add, show (1 : UInt64).toNat = 1 from rfl]; omega
  refine calls_of_WC (args := [.pointer (some ⟨bj, 0, none⟩), .agg #[.slice B1 k1 d1, .slice B2 k2 d2]]) Try.func51 rfl Try.ntmps51 rfl ?_
  show WC _ _ _ _ [(0, .pointer (some ⟨bj, 0, none⟩)), (1, .agg #[.slice B1 k1 d1, .slice B2 k2 d2])] _
  have hS : ST w0 (Ours (esJ bj bd half num hold (.slice A1 m1 c1) (.slice A2 m2 c2) t1 t2 bn vs vp n ss)) w0 (esJ bj bd half num hold (.slice A1 m1 c1) (.slice A2 m2 c2) t1 t2 bn vs vp n ss) := h0
  unfold esJ esK at hS
  refine WC.seq ?_
  refine WC.region ?_
  refine WL.box (vs := [.slice B1 k1 d1, .slice B2 k2 d2]) hS rfl rfl rfl ?_
  intro b3 w hb3 hS
  refine WL.pv (pv_assign rfl) rfl ?_
  refine WL.nil ?_
  refine QN.thenW ?_
  refine WC.seq ?_
  refine WC.block ?_
  refine WC.seq ?_
  refine WC.region ?_
  refine WL.pv (pv_move rfl) rfl ?_
  refine WL.pv (pv_eqlP Try.underlying74 rfl rfl (by simp)) rfl ?_
  refine WL.pv (pv_assign rfl) rfl ?_
  refine WL.nil ?_
  refine QN.thenW ?_
  refine WC.condF rfl rfl ?_
  refine WC.seq ?_
  refine WC.region ?_
  refine WL.pv (pv_fieldAddrZ fldT_78_0 rfl) rfl ?_
  refine WL.rv (rv_load_blk (k := 0) hS oneT_22 rfl rfl rfl) rfl ?_
  refine WL.pv (pv_len slS_22 rfl) rfl ?_
  refine WL.pv (pv_gtr rfl rfl) rfl ?_
  refine WL.pv (pv_move rfl) rfl ?_
  refine WL.guardT rfl rfl rfl (lkF rfl (by omega)) ?_
  refine WL.pv (pv_fieldAddrZ fldT_78_1 rfl) rfl ?_
  refine WL.guardT rfl rfl rfl (lkF rfl (by omega)) ?_
  refine WL.rv (rv_load_blk (k := 0) hS oneT_22 rfl rfl rfl) rfl ?_
  refine WL.guardT rfl rfl rfl (lkF rfl (by omega)) ?_
  refine WL.pv (pv_len slS_22 rfl) rfl ?_
  refine WL.guardT rfl rfl rfl (lkF rfl (by omega)) ?_
  refine WL.pv (pv_gtr rfl rfl) rfl ?_
  refine WL.pv (pv_pick0 (lkF rfl (by omega)) rfl) rfl ?_
  refine WL.pv (pv_move rfl) rfl ?_
  refine WL.guardT rfl rfl rfl (lkF rfl (by omega)) ?_
  refine WL.pv (pv_move rfl) rfl ?_
  refine WL.guardT rfl rfl rfl (lkF rfl (by omega)) ?_
  refine WL.pv (pv_nil rfl) rfl ?_
  refine WL.guardT rfl rfl rfl (lkF rfl (by omega)) ?_
  refine WL.pv (pv_fieldAddrZ fldT_116_2 rfl) rfl ?_
  refine WL.guardT rfl rfl rfl (lkF rfl (by omega)) ?_
  refine WL.rv (rv_load_blk (k := 1) hS oneT_86 rfl rfl rfl) rfl ?_
  refine WL.guardT rfl rfl rfl (lkF rfl (by omega)) ?_
  refine WL.pv (pv_eql rfl rfl) rfl ?_
  refine WL.pv (pv_pick0 (lkF rfl (by omega)) rfl) rfl ?_
  refine WL.pv (pv_assign rfl) rfl ?_
  refine WL.nil ?_
  refine QN.thenW ?_
  refine WC.condDF rfl (by omega) ?_
  refine WC.skip ?_
  refine QN.blockN ?_
  refine QN.thenW ?_
  refine WC.seq ?_
  refine WC.stillTail 6 mixedO (by kernel_rfl) ?_
  have hS := hS.no (Fr.drew _)
  refine WS.pv (pv_move rfl) rfl ?_
  refine WS.pv (pv_nil rfl) rfl ?_
  refine WS.pv (pv_fieldAddrZ fldT_116_2 rfl) rfl ?_
  refine WS.rv (rv_load_blk (k := 1) hS oneT_86 rfl rfl rfl) rfl ?_
  refine WS.pv (pv_add64 (b := 1) rfl rfl) rfl ?_
  refine WS.rv (rv_load_all (k := 0) hS rfl rfl (by rw [aggT_78]; simp)) rfl ?_
  refine WS.tail ?_
  refine WL.call (args := [.tmp 36, .tmp 37]) cf_73 rfl rfl (told_c (num + 1) _ _ _ _ _ _ s1 s2 _ (r1.frN hS.fr hN1) (r2.frN hS.fr hN2) hl1 hl2) ?_
  rintro _ w ⟨vb, rfl, hF, hRb, hfb⟩
  refine ⟨_, rfl, ?_⟩
  replace hS := hS.add (e := .row vb 5 1 _) hF hRb hfb
  obtain ⟨A8, m8, c8, rfl, hm8, _, _⟩ := hRb.anyForm
  rw [bs8_len] at hm8
  refine WL.pv (pv_assign rfl) rfl ?_
  refine WL.nil ?_
  refine QN.thenW ?_
  refine WC.seq ?_
  refine WC.seq ?_
  refine WC.region ?_
  refine WL.pv (pv_move rfl) rfl ?_
  refine WL.pv (pv_len slS_22 rfl) rfl ?_
  refine WL.pv (pv_move rfl) rfl ?_
  refine WL.call (args := [.tmp 41]) cf_54 rfl rfl (room_c bj bd half num hold A1 A2 m1 c1 m2 c2 _ (hS.bk (k := 2) rfl) hhalf) ?_
  rintro _ w ⟨rfl, hF⟩
  refine ⟨_, rfl, ?_⟩
  replace hS := hS.no hF
  refine WL.pv (pv_gtr rfl rfl) rfl ?_
  refine WL.nil ?_
  refine QN.thenW ?_
  refine WC.condDT rfl (by omega) ?_
  refine WC.seq ?_
  refine WC.region ?_
  refine WL.pv (pv_assign rfl) rfl ?_
  refine WL.nil ?_
  refine QN.thenW ?_
  refine WC.ret ?_
  refine QN.thenR ?_
  refine QN.ret1 rfl rfl ?_
  exact ⟨rfl, hS.drop.drop⟩

set_option maxHeartbeats 1000000 in
set_option maxRecDepth 100000 in
theorem save_c (bj bd half : Nat) (num : UInt64) (hold : Int) (A1 A2 : Option Addr) (m1 c1 m2 c2 : Nat) (t1 t2 : List UInt8) (bn : Nat) (vs vp : Value) (n : Nat) (ss : List (List UInt8)) (w0 : World) (h0 : ST w0 (Ours (esJ bj bd half num hold (.slice A1 m1 c1) (.slice A2 m2 c2) t1 t2 bn vs vp n ss)) w0 (esJ bj bd half num hold (.slice A1 m1 c1) (.slice A2 m2 c2) t1 t2 bn vs vp n ss)) (hnum : num.toNat ≤ 1000) (hds : Dsk n ss) (B1 B2 : Option Addr) (k1 d1 k2 d2 : Nat) (s1 s2 : List UInt8) (r1 : Rs w0 (.slice B1 k1 d1) 1 (bs8 s1)) (r2 : Rs w0 (.slice B2 k2 d2) 1 (bs8 s2)) (hN1 : 0 < (bs8 s1).length → ∀ b, (Value.slice B1 k1 d1).ownBlock = some b → ¬ Ours (esJ bj bd half num hold (.slice A1 m1 c1) (.slice A2 m2 c2) t1 t2 bn vs vp n ss) b) (hN2 : 0 < (bs8 s2).length → ∀ b, (Value.slice B2 k2 d2).ownBlock = some b → ¬ Ours (esJ bj bd half num hold (.slice A1 m1 c1) (.slice A2 m2 c2) t1 t2 bn vs vp n ss) b) (hl1 : s1.length ≤ 4000) (hl2 : s2.length ≤ 4000) (hh2 : 2 * half ≤ n) (ar : Nat) (ha1 : hold = 0 → ar = 1) (ha0 : ¬ hold = 0 → ar = 0) (hfit : (recB (num + 1) s1 s2).length ≤ 64 * half) : Calls Try.prog 51 #[.pointer (some ⟨bj, 0, none⟩), .agg #[.slice B1 k1 d1, .slice B2 k2 d2]] w0 fun e w => e = .returned (.int .i64 0) ∧ ∃ W1 W2 vs2 vp2 ss2, Sav ss ss2 half ar (num + 1) s1 s2 ∧ ST w0 (Ours (esJ bj bd half num hold (.slice A1 m1 c1) (.slice A2 m2 c2) t1 t2 bn vs vp n ss)) w (esJ bj bd half (num + 1) (ar : Int) W1 W2 s1 s2 bn vs2 vp2 n ss2) := by
  have hdle := hds.le
  have hln1 := r1.len
  have hln2 := r2.len
  rw [bs8_len] at hln1 hln2
  have hnum1 : (num + 1).toNat = num.toNat + 1 := by rw [UInt64.toNat_add, show (1 : UInt64).toNat = 1 from rfl]; omega
  have hh : ar * half + half ≤ n := by
    by_cases h : hold = 0
    · rw [ha1 h]; omega
    · rw [ha0 h]; omega
  have hhalf : half ≤ 2048 := by omega
  refine calls_of_WC (args := [.pointer (some ⟨bj, 0, none⟩), .agg #[.slice B1 k1 d1, .slice B2 k2 d2]]) Try.func51 rfl Try.ntmps51 rfl ?_
  show WC _ _ _ _ [(0, .pointer (some ⟨bj, 0, none⟩)), (1, .agg #[.slice B1 k1 d1, .slice B2 k2 d2])] _
  have hS : ST w0 (Ours (esJ bj bd half num hold (.slice A1 m1 c1) (.slice A2 m2 c2) t1 t2 bn vs vp n ss)) w0 (esJ bj bd half num hold (.slice A1 m1 c1) (.slice A2 m2 c2) t1 t2 bn vs vp n ss) := h0
  unfold esJ esK at hS
  refine WC.seq ?_
  refine WC.region ?_
  refine WL.box (vs := [.slice B1 k1 d1, .slice B2 k2 d2]) hS rfl rfl rfl ?_
  intro b3 w hb3 hS
  refine WL.pv (pv_assign rfl) rfl ?_
  refine WL.nil ?_
  refine QN.thenW ?_
  refine WC.seq ?_
  refine WC.block ?_
  refine WC.seq ?_
  refine WC.region ?_
  refine WL.pv (pv_move rfl) rfl ?_
  refine WL.pv (pv_eqlP Try.underlying74 rfl rfl (by simp)) rfl ?_
  refine WL.pv (pv_assign rfl) rfl ?_
  refine WL.nil ?_
  refine QN.thenW ?_
  refine WC.condF rfl rfl ?_
  refine WC.seq ?_
  refine WC.region ?_
  refine WL.pv (pv_fieldAddrZ fldT_78_0 rfl) rfl ?_
  refine WL.rv (rv_load_blk (k := 0) hS oneT_22 rfl rfl rfl) rfl ?_
  refine WL.pv (pv_len slS_22 rfl) rfl ?_
  refine WL.pv (pv_gtr rfl rfl) rfl ?_
  refine WL.pv (pv_move rfl) rfl ?_
  refine WL.guardT rfl rfl rfl (lkF rfl (by omega)) ?_
  refine WL.pv (pv_fieldAddrZ fldT_78_1 rfl) rfl ?_
  refine WL.guardT rfl rfl rfl (lkF rfl (by omega)) ?_
  refine WL.rv (rv_load_blk (k := 0) hS oneT_22 rfl rfl rfl) rfl ?_
  refine WL.guardT rfl rfl rfl (lkF rfl (by omega)) ?_
  refine WL.pv (pv_len slS_22 rfl) rfl ?_
  refine WL.guardT rfl rfl rfl (lkF rfl (by omega)) ?_
  refine WL.pv (pv_gtr rfl rfl) rfl ?_
  refine WL.pv (pv_pick0 (lkF rfl (by omega)) rfl) rfl ?_
  refine WL.pv (pv_move rfl) rfl ?_
  refine WL.guardT rfl rfl rfl (lkF rfl (by omega)) ?_
  refine WL.pv (pv_move rfl) rfl ?_
  refine WL.guardT rfl rfl rfl (lkF rfl (by omega)) ?_
  refine WL.pv (pv_nil rfl) rfl ?_
  refine WL.guardT rfl rfl rfl (lkF rfl (by omega)) ?_
  refine WL.pv (pv_fieldAddrZ fldT_116_2 rfl) rfl ?_
  refine WL.guardT rfl rfl rfl (lkF rfl (by omega)) ?_
  refine WL.rv (rv_load_blk (k := 1) hS oneT_86 rfl rfl rfl) rfl ?_
  refine WL.guardT rfl rfl rfl (lkF rfl (by omega)) ?_
  refine WL.pv (pv_eql rfl rfl) rfl ?_
  refine WL.pv (pv_pick0 (lkF rfl (by omega)) rfl) rfl ?_
  refine WL.pv (pv_assign rfl) rfl ?_
  refine WL.nil ?_
  refine QN.thenW ?_
  refine WC.condDF rfl (by omega) ?_
  refine WC.skip ?_
  refine QN.blockN ?_
  refine QN.thenW ?_
  refine WC.seq ?_
  refine WC.stillTail 6 mixedO (by kernel_rfl) ?_
  have hS := hS.no (Fr.drew _)
  refine WS.pv (pv_move rfl) rfl ?_
  refine WS.pv (pv_nil rfl) rfl ?_
  refine WS.pv (pv_fieldAddrZ fldT_116_2 rfl) rfl ?_
  refine WS.rv (rv_load_blk (k := 1) hS oneT_86 rfl rfl rfl) rfl ?_
  refine WS.pv (pv_add64 (b := 1) rfl rfl) rfl ?_
  refine WS.rv (rv_load_all (k := 0) hS rfl rfl (by rw [aggT_78]; simp)) rfl ?_
  refine WS.tail ?_
  refine WL.call (args := [.tmp 36, .tmp 37]) cf_73 rfl rfl (told_c (num + 1) _ _ _ _ _ _ s1 s2 _ (r1.frN hS.fr hN1) (r2.frN hS.fr hN2) hl1 hl2) ?_
  rintro _ w ⟨vb, rfl, hF, hRb, hfb⟩
  refine ⟨_, rfl, ?_⟩
  replace hS := hS.add (e := .row vb 5 1 _) hF hRb hfb
  obtain ⟨A8, m8, c8, rfl, hm8, _, _⟩ := hRb.anyForm
  rw [bs8_len] at hm8
  refine WL.pv (pv_assign rfl) rfl ?_
  refine WL.nil ?_
  refine QN.thenW ?_
  refine WC.seq ?_
  refine WC.seq ?_
  refine WC.region ?_
  refine WL.pv (pv_move rfl) rfl ?_
  refine WL.pv (pv_len slS_22 rfl) rfl ?_
  refine WL.pv (pv_move rfl) rfl ?_
  refine WL.call (args := [.tmp 41]) cf_54 rfl rfl (room_c bj bd half num hold A1 A2 m1 c1 m2 c2 _ (hS.bk (k := 2) rfl) hhalf) ?_
  rintro _ w ⟨rfl, hF⟩
  refine ⟨_, rfl, ?_⟩
  replace hS := hS.no hF
  refine WL.pv (pv_gtr rfl rfl) rfl ?_
  refine WL.nil ?_
  refine QN.thenW ?_
  refine WC.condDF rfl (by omega) ?_
  refine WC.skip ?_
  refine QN.thenW ?_
  refine WC.seq ?_
  refine WC.region ?_
  refine WL.pv (pv_assign rfl) rfl ?_
  refine WL.nil ?_
  refine QN.thenW ?_
  refine WC.cut (α := Unit) (fun u => [(0, .pointer (some ⟨bj, 0, none⟩)), (3, .pointer (some ⟨b3, 0, none⟩)), (5, .slice A8 m8 c8), (6, .int .i64 (ar : Int))]) (fun u w => ST w0 (Ours (esJ bj bd half num hold (.slice A1 m1 c1) (.slice A2 m2 c2) t1 t2 bn vs vp n ss)) w [.row (.slice A8 m8 c8) 5 1 (bs8 (recB (num + 1) s1 s2)), .blk b3 78 [.slice B1 k1 d1, .slice B2 k2 d2], .blk bj 116 [.pointer (some ⟨bd, 0, none⟩), .int .i64 (half : Int), w64 num, .int .i64 hold, .slice A1 m1 c1, .slice A2 m2 c2], .row (.slice A1 m1 c1) 5 1 (bs8 t1), .row (.slice A2 m2 c2) 5 1 (bs8 t2), .blk bd 114 [vs, .slice (some ⟨bn, 0, none⟩) n n, vp, .int .i64 (-1), .bool false], .blk bn 153 (kc ss), .row vp 155 65 []]) ?_ ?_
  · skip
    refine WC.seq ?_
    refine WC.region ?_
    refine WL.pv (pv_move rfl) rfl ?_
    refine WL.pv (pv_nil rfl) rfl ?_
    refine WL.pv (pv_fieldAddrZ fldT_116_3 rfl) rfl ?_
    refine WL.rv (rv_load_blk (k := 2) hS oneT_3 rfl rfl rfl) rfl ?_
    refine WL.pv (pv_eql rfl rfl) rfl ?_
    refine WL.nil ?_
    refine QN.thenW ?_
    refine WC.condD rfl (fun hc48 => ?_) (fun hc48 => ?_)
    · skip
      refine WC.region ?_
      refine WL.pv (pv_assign rfl) rfl ?_
      refine WL.nil ?_
      refine QN.midE ?_
      exact ⟨(()), (Sub.cons rfl (Sub.cons rfl (Sub.cons rfl (Sub.cons (by first | (obtain rfl := ha1 hc48; rfl) | (obtain rfl := ha0 hc48; rfl)) Sub.nil)))), hS⟩
    · skip
      refine WC.skip ?_
      refine QN.midE ?_
      exact ⟨(()), (Sub.cons rfl (Sub.cons rfl (Sub.cons rfl (Sub.cons (by first | (obtain rfl := ha1 hc48; rfl) | (obtain rfl := ha0 hc48; rfl)) Sub.nil)))), hS⟩
  · rintro u w hR
    have hS := hR
    refine WC.seq ?_
    refine WC.seq ?_
    refine WC.region ?_
    refine WL.pv (pv_move rfl) rfl ?_
    refine WL.pv (pv_move rfl) rfl ?_
    refine WL.call (args := [.tmp 49, .tmp 50]) cf_74 rfl rfl (clear_c bj bd bn half ar n num hold _ _ vs vp ss _ (hS.bk (k := 2) rfl) (ST.notPart (fr := [_, _, _, _, _]) (es := esK bd bn vs vp n ss []) hS (k := 2) rfl rfl) (ST.part (fr := [_, _, _, _, _]) (es := esK bd bn vs vp n ss []) hS) hds hh) ?_
    rintro _ w ⟨rfl, vs1, vp0, hS2⟩
    refine ⟨_, rfl, ?_⟩
    replace hS := ST.call (fr := [_, _, _, _, _]) (es := esK bd bn vs vp n ss []) hS hS2
    simp only [esK, List.cons_append, List.nil_append] at hS
    refine WL.pv (pv_assign rfl) rfl ?_
    refine WL.nil ?_
    refine QN.thenW ?_
    refine WC.seq ?_
    refine WC.region ?_
    refine WL.pv (pv_move rfl) rfl ?_
    refine WL.pv (pv_neq rfl rfl) rfl ?_
    refine WL.nil ?_
    refine QN.thenW ?_
    refine WC.condDF rfl (by simp) ?_
    refine WC.skip ?_
    refine QN.thenW ?_
    refine WC.seq ?_
    refine WC.block ?_
    refine WC.loop (α := Nat × Value) (fun s => [(0, .pointer (some ⟨bj, 0, none⟩)), (3, .pointer (some ⟨b3, 0, none⟩)), (5, s.2), (6, .int .i64 (ar : Int))]) (fun s w => (recB (num + 1) s1 s2).length + s.1 ≤ 64 * half ∧ ST w0 (Ours (esJ bj bd half num hold (.slice A1 m1 c1) (.slice A2 m2 c2) t1 t2 bn vs vp n ss)) w [.row s.2 5 1 (bs8 ((recB (num + 1) s1 s2) ++ List.replicate s.1 0)), .blk b3 78 [.slice B1 k1 d1, .slice B2 k2 d2], .blk bj 116 [.pointer (some ⟨bd, 0, none⟩), .int .i64 (half : Int), w64 num, .int .i64 hold, .slice A1 m1 c1, .slice A2 m2 c2], .row (.slice A1 m1 c1) 5 1 (bs8 t1), .row (.slice A2 m2 c2) 5 1 (bs8 t2), .blk bd 114 [vs1, .slice (some ⟨bn, 0, none⟩) n n, vp0, .int .i64 (-1), .bool false], .blk bn 153 (kc (sK ss (ar * half) (zB half) half)), .row vp0 155 65 []]) (fun s => 64 * half - ((recB (num + 1) s1 s2).length + s.1)) ((0, .slice A8 m8 c8)) (Sub.cons rfl (Sub.cons rfl (Sub.cons rfl (Sub.cons rfl Sub.nil)))) ⟨by show _ + 0 ≤ _; omega, by rw [List.replicate_zero, List.append_nil]; exact hS⟩ ?_
    rintro ⟨j, v⟩ w N hN hR
    change N = 64 * half - ((recB (num + 1) s1 s2).length + j) at hN
    change (recB (num + 1) s1 s2).length + j ≤ 64 * half ∧ ST w0 (Ours (esJ bj bd half num hold (.slice A1 m1 c1) (.slice A2 m2 c2) t1 t2 bn vs vp n ss)) w [.row v 5 1 (bs8 ((recB (num + 1) s1 s2) ++ List.replicate j 0)), .blk b3 78 [.slice B1 k1 d1, .slice B2 k2 d2], .blk bj 116 [.pointer (some ⟨bd, 0, none⟩), .int .i64 (half : Int), w64 num, .int .i64 hold, .slice A1 m1 c1, .slice A2 m2 c2], .row (.slice A1 m1 c1) 5 1 (bs8 t1), .row (.slice A2 m2 c2) 5 1 (bs8 t2), .blk bd 114 [vs1, .slice (some ⟨bn, 0, none⟩) n n, vp0, .int .i64 (-1), .bool false], .blk bn 153 (kc (sK ss (ar * half) (zB half) half)), .row vp0 155 65 []] at hR
    show WC _ _ _ _ [(0, .pointer (some ⟨bj, 0, none⟩)), (3, .pointer (some ⟨b3, 0, none⟩)), (5, v), (6, .int .i64 (ar : Int))] _
    obtain ⟨hj, hS⟩ := hR
    obtain ⟨A9, m9, c9, rfl, hm9, _, _⟩ := (hS.rw_ (k := 0) rfl).anyForm
    rw [bs8_len, List.length_append, List.length_replicate] at hm9
    refine WC.seq ?_
    refine WC.seq ?_
    refine WC.region ?_
    refine WL.pv (pv_move rfl) rfl ?_
    refine WL.pv (pv_len slS_22 rfl) rfl ?_
    refine WL.pv (pv_rem rfl rfl (by omega)) rfl ?_
    refine WL.pv (pv_neq rfl rfl) rfl ?_
    refine WL.nil ?_
    refine QN.thenW ?_
    refine WC.condD rfl (fun hc58 => ?_) (fun hc58 => ?_)
    · skip
      have hmod : m9 % 64 ≠ 0 := by omega
      refine WC.skip ?_
      refine QN.thenW ?_
      refine WC.block ?_
      refine WC.region ?_
      refine WL.pv (pv_move rfl) rfl ?_
      refine WL.build1 (v := b8 0) hS slT_22 zeroT_5 rfl rfl rfl rfl ?_
      intro b60 w hb60 hS
      refine WL.append (k := 1) (N := 200000) hS slT_22 zlenT_5 (by decide) rfl rfl rfl (show Rs _ _ 1 (bs8 [0]) from (hS.bk (k := 0) rfl).rs 0 1 1 1 (by omega) (by simp [maxLen]) (by simp)) bs8_one (by simp [bs8_len]; omega) (by omega) (by simp [maxLen]) rfl ?_
      intro v61 w hFr61 hS
      try simp only [List.set] at hS
      rw [← bs8_app, List.append_assoc, show List.replicate j (0 : UInt8) ++ [0] = List.replicate (j + 1) 0 from by rw [List.replicate_succ']] at hS
      replace hS := hS.drop
      refine WL.pv (pv_assign rfl) rfl ?_
      refine WL.nil ?_
      refine QN.blockN ?_
      refine QN.roundE ?_
      refine ⟨((j + 1, v61)), (Sub.cons rfl (Sub.cons rfl (Sub.cons rfl (Sub.cons rfl Sub.nil)))), ⟨by show _ + (j + 1) ≤ _; omega, hS⟩, ?_⟩
      first | omega | (dsimp only; omega)
    · skip
      have hmod : m9 % 64 = 0 := by omega
      have hSd : Dsk n (sK ss (ar * half) (zB half) half) := sK_dsk hds (by rw [zB, List.length_replicate]; omega)
      have hBl : ((recB (num + 1) s1 s2) ++ List.replicate j 0).length = m9 := by rw [List.length_append, List.length_replicate]; omega
      refine WC.exit ?_
      refine QN.thenX ?_
      refine QN.thenX ?_
      refine QN.blockX ?_
      refine QN.thenW ?_
      refine WC.seq ?_
      refine WC.seq ?_
      refine WC.region ?_
      refine WL.pv (pv_assign rfl) rfl ?_
      refine WL.nil ?_
      refine QN.thenW ?_
      refine WC.block ?_
      refine WC.loop (α := Nat) (fun q => [(0, .pointer (some ⟨bj, 0, none⟩)), (3, .pointer (some ⟨b3, 0, none⟩)), (5, .slice A9 m9 c9), (6, .int .i64 (ar : Int)), (8, .int .i64 ((64 * q : Nat) : Int))]) (fun q w => 64 * q ≤ m9 ∧ ∃ vp1 ps, ps.length = 65 * q ∧ ST w0 (Ours (esJ bj bd half num hold (.slice A1 m1 c1) (.slice A2 m2 c2) t1 t2 bn vs vp n ss)) w [.row (.slice A9 m9 c9) 5 1 (bs8 ((recB (num + 1) s1 s2) ++ List.replicate j 0)), .blk b3 78 [.slice B1 k1 d1, .slice B2 k2 d2], .blk bj 116 [.pointer (some ⟨bd, 0, none⟩), .int .i64 (half : Int), w64 num, .int .i64 hold, .slice A1 m1 c1, .slice A2 m2 c2], .row (.slice A1 m1 c1) 5 1 (bs8 t1), .row (.slice A2 m2 c2) 5 1 (bs8 t2), .blk bd 114 [vs1, .slice (some ⟨bn, 0, none⟩) n n, vp1, .int .i64 (-1), .bool false], .blk bn 153 (kc (sK (sK ss (ar * half) (zB half) half) (ar * half) ((recB (num + 1) s1 s2) ++ List.replicate j 0) q)), .row vp1 155 65 ps]) (fun q => m9 - 64 * q) (0) (Sub.cons rfl (Sub.cons rfl (Sub.cons rfl (Sub.cons rfl (Sub.cons rfl Sub.nil))))) ⟨by omega, vp0, [], rfl, hS⟩ ?_
      rintro q w N hN hR
      obtain ⟨hq, vp1, ps, hps, hS⟩ := hR
      refine WC.seq ?_
      refine WC.seq ?_
      refine WC.region ?_
      refine WL.pv (pv_move rfl) rfl ?_
      refine WL.pv (pv_move rfl) rfl ?_
      refine WL.pv (pv_len slS_22 rfl) rfl ?_
      refine WL.pv (pv_lss rfl rfl) rfl ?_
      refine WL.nil ?_
      refine QN.thenW ?_
      refine WC.condD rfl (fun hc65 => ?_) (fun hc65 => ?_)
      · skip
        have hq64 : 64 * q + 64 ≤ m9 := by omega
        have hqd : Dsk n (sK (sK ss (ar * half) (zB half) half) (ar * half) ((recB (num + 1) s1 s2) ++ List.replicate j 0) q) := sK_dsk hSd (by rw [hBl]; omega)
        have hqdl := hqd.len
        have hidx : (ar : Int) * (half : Int) + ((64 * q / 64 : Nat) : Int) = ((ar * half + q : Nat) : Int) := by rw [Int.natCast_add, Int.natCast_mul, show 64 * q / 64 = q from by omega]
        have hcl : ((((recB (num + 1) s1 s2) ++ List.replicate j 0).drop (64 * q)).take 64).length = 64 := by rw [List.length_take, List.length_drop, hBl]; omega
        refine WC.skip ?_
        refine QN.thenW ?_
        refine WC.seq ?_
        refine WC.block ?_
        refine WC.seq ?_
        refine WC.stillTail 18 mixedO (by kernel_rfl) ?_
        have hS := hS.no (Fr.drew _)
        refine WS.pv (pv_move rfl) rfl ?_
        refine WS.pv (pv_nil rfl) rfl ?_
        refine WS.pv (pv_fieldAddrZ fldT_116_0 rfl) rfl ?_
        refine WS.rv (rv_load_blk (k := 2) hS oneT_72 rfl rfl rfl) rfl ?_
        refine WS.pv (pv_move rfl) rfl ?_
        refine WS.pv (pv_move rfl) rfl ?_
        refine WS.pv (pv_nil rfl) rfl ?_
        refine WS.pv (pv_fieldAddrZ fldT_116_1 rfl) rfl ?_
        refine WS.rv (rv_load_blk (k := 2) hS oneT_3 rfl rfl rfl) rfl ?_
        refine WS.pv (pv_mul rfl rfl (by rw [← Int.natCast_mul]; omega)) rfl ?_
        refine WS.pv (pv_move rfl) rfl ?_
        refine WS.pv (pv_quoN (a := 64 * q) (b := 64) rfl rfl (by omega) (by omega)) rfl ?_
        refine WS.pv (pv_add rfl rfl (by rw [hidx]; omega)) rfl ?_
        refine WS.pv (pv_move rfl) rfl ?_
        refine WS.pv (pv_move rfl) rfl ?_
        refine WS.pv (pv_move rfl) rfl ?_
        refine WS.pv (pv_add rfl rfl (by omega)) rfl ?_
        refine WS.pv (pv_sliceLH (a := (64 * q)) (b := (64 * q + 64)) slT_22 rfl rfl rfl (by first | rfl | (simp only [bnd]; congr 1; omega)) (by first | rfl | (simp only [bnd]; congr 1; omega)) (by omega) (by omega)) rfl ?_
        refine WS.tail ?_
        refine WL.call (args := [.tmp 71, .tmp 80, .tmp 85]) cf_75 rfl rfl (by rw [hidx, show 64 * q + 64 - 64 * q = 64 from by omega]; exact writeK_c bd bn vs1 vp1 n (sK (sK ss (ar * half) (zB half) half) (ar * half) ((recB (num + 1) s1 s2) ++ List.replicate j 0) q) ps _ (ST.part (fr := [_, _, _, _, _]) (es := (esK bd bn vs1 vp1 n (sK (sK ss (ar * half) (zB half) half) (ar * half) ((recB (num + 1) s1 s2) ++ List.replicate j 0) q) ps)) hS) hqd (ar * half + q) (by omega) _ _ _ hcl (by have h9 := Rs.cut8 (a := 64 * q) (b := 64 * q + 64) (hS.rw_ (k := 0) rfl).rs (by omega) (by omega); rw [show 64 * q + 64 - 64 * q = 64 from by omega] at h9; exact h9) (fun b hb => ST.notPart (fr := [_, _, _, _, _]) (es := (esK bd bn vs1 vp1 n (sK (sK ss (ar * half) (zB half) half) (ar * half) ((recB (num + 1) s1 s2) ++ List.replicate j 0) q) ps)) hS (k := 0) rfl (cut_own hb)) (by omega)) ?_
        rintro _ w ⟨rfl, vp2, ps2, hps2, hS2⟩
        refine ⟨_, rfl, ?_⟩
        replace hS := ST.call (fr := [_, _, _, _, _]) (es := (esK bd bn vs1 vp1 n (sK (sK ss (ar * half) (zB half) half) (ar * half) ((recB (num + 1) s1 s2) ++ List.replicate j 0) q) ps)) hS hS2
        simp only [esK, List.cons_append, List.nil_append] at hS
        refine WL.pv (pv_assign rfl) rfl ?_
        refine WL.nil ?_
        refine QN.thenW ?_
        refine WC.seq ?_
        refine WC.region ?_
        refine WL.pv (pv_move rfl) rfl ?_
        refine WL.pv (pv_neq rfl rfl) rfl ?_
        refine WL.nil ?_
        refine QN.thenW ?_
        refine WC.condDF rfl (by simp) ?_
        refine WC.skip ?_
        refine QN.blockN ?_
        refine QN.thenW ?_
        refine WC.region ?_
        refine WL.pv (pv_move rfl) rfl ?_
        refine WL.pv (pv_add rfl rfl (by omega)) rfl ?_
        refine WL.pv (pv_assign rfl) rfl ?_
        refine WL.nil ?_
        refine QN.roundE ?_
        refine ⟨(q + 1), (Sub.cons rfl (Sub.cons rfl (Sub.cons rfl (Sub.cons rfl (Sub.cons (by simp [lk]; omega) Sub.nil))))), ⟨by omega, _, _, by omega, hS⟩, ?_⟩
        first | omega | (dsimp only; omega)
      · skip
        obtain rfl : m9 = 64 * q := by omega
        refine WC.exit ?_
        refine QN.thenX ?_
        refine QN.thenX ?_
        refine QN.blockX ?_
        refine QN.thenW ?_
        refine WC.seq ?_
        refine WC.seq ?_
        refine WC.region ?_
        refine WL.pv (pv_move rfl) rfl ?_
        refine WL.pv (pv_nil rfl) rfl ?_
        refine WL.pv (pv_fieldAddrZ fldT_116_0 rfl) rfl ?_
        refine WL.rv (rv_load_blk (k := 2) hS oneT_72 rfl rfl rfl) rfl ?_
        refine WL.call (args := [.tmp 93]) cf_76 rfl rfl (syncK_c bd bn vs1 vp1 n (sK (sK ss (ar * half) (zB half) half) (ar * half) ((recB (num + 1) s1 s2) ++ List.replicate j 0) q) ps _ (ST.part (fr := [_, _, _, _, _]) (es := (esK bd bn vs1 vp1 n (sK (sK ss (ar * half) (zB half) half) (ar * half) ((recB (num + 1) s1 s2) ++ List.replicate j 0) q) ps)) hS) (sK_dsk hSd (by rw [hBl]; omega))) ?_
        rintro _ w ⟨rfl, vs2, vp2, hS2⟩
        refine ⟨_, rfl, ?_⟩
        replace hS := ST.call (fr := [_, _, _, _, _]) (es := (esK bd bn vs1 vp1 n (sK (sK ss (ar * half) (zB half) half) (ar * half) ((recB (num + 1) s1 s2) ++ List.replicate j 0) q) ps)) hS hS2
        simp only [esK, List.cons_append, List.nil_append] at hS
        refine WL.pv (pv_assign rfl) rfl ?_
        refine WL.nil ?_
        refine QN.thenW ?_
        refine WC.seq ?_
        refine WC.region ?_
        refine WL.pv (pv_move rfl) rfl ?_
        refine WL.pv (pv_neq rfl rfl) rfl ?_
        refine WL.nil ?_
        refine QN.thenW ?_
        refine WC.condDF rfl (by simp) ?_
        refine WC.skip ?_
        refine QN.thenW ?_
        refine WC.seq ?_
        refine WC.draw (S := fun _ => True) (fuel := 20) (listed := #[false, false, false, false, false, false, false, false, false, false, false, false, false, false, false, false, false, false, false, false]) mixedO rfl rfl ?_
        have hS := hS.no (Fr.drew _)
        refine WH.take (listed' := #[true, false, false, false, false, false, false, false, false, false, false, false, false, false, false, false, false, false, false, false]) 0 rfl (by kernel_rfl) (by kernel_rfl) (by kernel_rfl) (fun _ _ _ h => h) rfl (fun w _ => PV.rv (pv_move rfl) w) trivial rfl ?_
        refine WH.take (listed' := #[true, true, false, false, false, false, false, false, false, false, false, false, false, false, false, false, false, false, false, false]) 1 rfl (by kernel_rfl) (by kernel_rfl) (by kernel_rfl) (fun _ _ _ h => h) rfl (fun w _ => PV.rv (pv_move rfl) w) trivial rfl ?_
        refine WH.take (listed' := #[true, true, true, false, false, false, false, false, false, false, false, false, false, false, false, false, false, false, false, false]) 2 rfl (by kernel_rfl) (by kernel_rfl) (by kernel_rfl) (fun _ _ _ h => h) rfl (fun w _ => PV.rv (pv_move rfl) w) trivial rfl ?_
        refine WH.take (listed' := #[true, true, true, true, false, false, false, false, false, false, false, false, false, false, false, false, false, false, false, false]) 3 rfl (by kernel_rfl) (by kernel_rfl) (by kernel_rfl) (fun _ _ _ h => h) rfl (fun w _ => PV.rv (pv_move rfl) w) trivial rfl ?_
        refine WH.take (listed' := #[true, true, true, true, true, false, false, false, false, false, false, false, false, false, false, false, false, false, false, false]) 4 rfl (by kernel_rfl) (by kernel_rfl) (by kernel_rfl) (fun _ _ _ h => h) rfl (fun w _ => PV.rv (pv_nil rfl) w) trivial rfl ?_
        refine WH.take (listed' := #[true, true, true, true, true, true, false, false, false, false, false, false, false, false, false, false, false, false, false, false]) 5 rfl (by kernel_rfl) (by kernel_rfl) (by kernel_rfl) (fun _ _ _ h => h) rfl (fun w _ => PV.rv (pv_fieldAddrZ fldT_116_2 rfl) w) trivial rfl ?_
        refine WH.take (listed' := #[true, true, true, true, true, true, false, false, false, false, true, false, false, false, false, false, false, false, false, false]) 10 rfl (by kernel_rfl) (by kernel_rfl) (by kernel_rfl) (fun _ _ _ h => h) rfl (fun w _ => PV.rv (pv_move rfl) w) trivial rfl ?_
        refine WH.two (m1 := #[true, true, true, true, true, true, true, false, false, false, true, false, false, false, false, false, false, false, false, false]) (m2 := #[true, true, true, true, true, true, false, false, true, false, true, false, false, false, false, false, false, false, false, false]) 6 8 rfl rfl (by kernel_rfl) rfl rfl ?_ ?_
        · skip
          refine WL.rv (rv_load_blk (k := 2) hS oneT_86 rfl rfl rfl) rfl ?_
          refine WL.nil ?_
          refine QN.held trivial ?_
          refine WH.take (listed' := #[true, true, true, true, true, true, true, true, false, false, true, false, false, false, false, false, false, false, false, false]) 7 rfl (by kernel_rfl) (by kernel_rfl) (by kernel_rfl) (fun _ _ _ h => h) rfl (fun w _ => PV.rv (pv_add64 (b := 1) rfl rfl) w) trivial rfl ?_
          refine WH.one (listed' := #[true, true, true, true, true, true, true, true, true, false, true, false, false, false, false, false, false, false, false, false]) 8 rfl (by kernel_rfl) rfl ?_
          refine WL.rv (rv_load_all (k := 1) hS rfl rfl (by rw [aggT_78]; simp)) rfl ?_
          refine WL.nil ?_
          refine QN.held trivial ?_
          refine WH.one (listed' := #[true, true, true, true, true, true, true, true, true, true, true, false, false, false, false, false, false, false, false, false]) 9 rfl (by kernel_rfl) rfl ?_
          refine WL.call (args := [.tmp 106]) cf_77 rfl rfl (own_c _ _ _ _ _ _ s1 s2 _ (r1.frN hS.fr hN1) (r2.frN hS.fr hN2) hl1 hl2) ?_
          rintro _ w ⟨v1, v2, rfl, hS2⟩
          refine ⟨_, rfl, ?_⟩
          replace hS := hS.join hS2
          simp only [List.cons_append, List.nil_append] at hS
          obtain ⟨E1, e1, f1, rfl, _, _, _⟩ := (hS.rw_ (k := 1) rfl).anyForm
          obtain ⟨E2, e2, f2, rfl, _, _, _⟩ := (hS.rw_ (k := 0) rfl).anyForm
          refine WL.nil ?_
          refine QN.held trivial ?_
          refine WH.take (listed' := #[true, true, true, true, true, true, true, true, true, true, true, true, false, false, false, false, false, false, false, false]) 11 rfl (by kernel_rfl) (by kernel_rfl) (by kernel_rfl) (fun _ _ _ h => h) rfl (fun w _ => PV.rv (pv_nil rfl) w) trivial rfl ?_
          refine WH.take (listed' := #[true, true, true, true, true, true, true, true, true, true, true, true, true, false, false, false, false, false, false, false]) 12 rfl (by kernel_rfl) (by kernel_rfl) (by kernel_rfl) (fun _ _ _ h => h) rfl (fun w _ => PV.rv (pv_fieldAddrZ fldT_116_2 rfl) w) trivial rfl ?_
          refine WH.one (listed' := #[true, true, true, true, true, true, true, true, true, true, true, true, true, true, false, false, false, false, false, false]) 13 rfl (by kernel_rfl) rfl ?_
          refine WL.store (k := 4) hS sizeT_86 rfl rfl rfl rfl (by simp) ?_
          intro w hS
          try simp only [List.set] at hS
          refine WL.nil ?_
          refine QN.held trivial ?_
          refine WH.take (listed' := #[true, true, true, true, true, true, true, true, true, true, true, true, true, true, true, false, false, false, false, false]) 14 rfl (by kernel_rfl) (by kernel_rfl) (by kernel_rfl) (fun _ _ _ h => h) rfl (fun w _ => PV.rv (pv_nil rfl) w) trivial rfl ?_
          refine WH.take (listed' := #[true, true, true, true, true, true, true, true, true, true, true, true, true, true, true, true, false, false, false, false]) 15 rfl (by kernel_rfl) (by kernel_rfl) (by kernel_rfl) (fun _ _ _ h => h) rfl (fun w _ => PV.rv (pv_fieldAddrZ fldT_116_4 rfl) w) trivial rfl ?_
          refine WH.one (listed' := #[true, true, true, true, true, true, true, true, true, true, true, true, true, true, true, true, true, false, false, false]) 16 rfl (by kernel_rfl) rfl ?_
          refine WL.storeA (k := 4) (vs := [.slice E1 e1 f1, .slice E2 e2 f2]) hS (by rw [sizeT_78]; simp) rfl rfl rfl (by first | (simp; done) | simp [Value.oneCell']) (by simp) ?_
          intro w hS
          try simp only [List.set] at hS
          simp only [List.take_succ_cons, List.take_zero, List.drop_succ_cons, List.drop_zero, List.cons_append, List.nil_append, List.length_cons, List.length_nil, Nat.zero_add, Nat.reduceAdd] at hS
          refine WL.nil ?_
          refine QN.held trivial ?_
          refine WH.take (listed' := #[true, true, true, true, true, true, true, true, true, true, true, true, true, true, true, true, true, true, false, false]) 17 rfl (by kernel_rfl) (by kernel_rfl) (by kernel_rfl) (fun _ _ _ h => h) rfl (fun w _ => PV.rv (pv_nil rfl) w) trivial rfl ?_
          refine WH.take (listed' := #[true, true, true, true, true, true, true, true, true, true, true, true, true, true, true, true, true, true, true, false]) 18 rfl (by kernel_rfl) (by kernel_rfl) (by kernel_rfl) (fun _ _ _ h => h) rfl (fun w _ => PV.rv (pv_fieldAddrZ fldT_116_3 rfl) w) trivial rfl ?_
          refine WH.one (listed' := #[true, true, true, true, true, true, true, true, true, true, true, true, true, true, true, true, true, true, true, true]) 19 rfl (by kernel_rfl) rfl ?_
          refine WL.store (k := 4) hS sizeT_3 rfl rfl rfl rfl (by simp) ?_
          intro w hS
          try simp only [List.set] at hS
          refine WL.nil ?_
          refine QN.held trivial ?_
          refine WH.done (by kernel_rfl) ?_
          refine QN.thenW ?_
          refine WC.seq ?_
          refine WC.region ?_
          refine WL.pv (pv_assign rfl) rfl ?_
          refine WL.nil ?_
          refine QN.thenW ?_
          refine WC.ret ?_
          refine QN.ret1 rfl rfl ?_
          exact ⟨rfl, _, _, _, _, _, ⟨j, q, by omega, by omega, rfl⟩, ((hS.top 1 rfl).top 4 rfl).sub (.cons_cons _ (.cons_cons _ (.cons_cons _ (.cons _ (.cons _ (.cons _ (.cons _ (.cons_cons _ (.cons_cons _ (.cons_cons _ .slnil))))))))))⟩
        · skip
          refine WL.rv (rv_load_all (k := 1) hS rfl rfl (by rw [aggT_78]; simp)) rfl ?_
          refine WL.nil ?_
          refine QN.held trivial ?_
          refine WH.two (m1 := #[true, true, true, true, true, true, true, false, true, false, true, false, false, false, false, false, false, false, false, false]) (m2 := #[true, true, true, true, true, true, false, false, true, true, true, false, false, false, false, false, false, false, false, false]) 6 9 rfl rfl (by kernel_rfl) rfl rfl ?_ ?_
          · skip
            refine WL.rv (rv_load_blk (k := 2) hS oneT_86 rfl rfl rfl) rfl ?_
            refine WL.nil ?_
            refine QN.held trivial ?_
            refine WH.take (listed' := #[true, true, true, true, true, true, true, true, true, false, true, false, false, false, false, false, false, false, false, false]) 7 rfl (by kernel_rfl) (by kernel_rfl) (by kernel_rfl) (fun _ _ _ h => h) rfl (fun w _ => PV.rv (pv_add64 (b := 1) rfl rfl) w) trivial rfl ?_
            refine WH.one (listed' := #[true, true, true, true, true, true, true, true, true, true, true, false, false, false, false, false, false, false, false, false]) 9 rfl (by kernel_rfl) rfl ?_
            refine WL.call (args := [.tmp 106]) cf_77 rfl rfl (own_c _ _ _ _ _ _ s1 s2 _ (r1.frN hS.fr hN1) (r2.frN hS.fr hN2) hl1 hl2) ?_
            rintro _ w ⟨v1, v2, rfl, hS2⟩
            refine ⟨_, rfl, ?_⟩
            replace hS := hS.join hS2
            simp only [List.cons_append, List.nil_append] at hS
            obtain ⟨E1, e1, f1, rfl, _, _, _⟩ := (hS.rw_ (k := 1) rfl).anyForm
            obtain ⟨E2, e2, f2, rfl, _, _, _⟩ := (hS.rw_ (k := 0) rfl).anyForm
            refine WL.nil ?_
            refine QN.held trivial ?_
            refine WH.take (listed' := #[true, true, true, true, true, true, true, true, true, true, true, true, false, false, false, false, false, false, false, false]) 11 rfl (by kernel_rfl) (by kernel_rfl) (by kernel_rfl) (fun _ _ _ h => h) rfl (fun w _ => PV.rv (pv_nil rfl) w) trivial rfl ?_
            refine WH.take (listed' := #[true, true, true, true, true, true, true, true, true, true, true, true, true, false, false, false, false, false, false, false]) 12 rfl (by kernel_rfl) (by kernel_rfl) (by kernel_rfl) (fun _ _ _ h => h) rfl (fun w _ => PV.rv (pv_fieldAddrZ fldT_116_2 rfl) w) trivial rfl ?_
            refine WH.one (listed' := #[true, true, true, true, true, true, true, true, true, true, true, true, true, true, false, false, false, false, false, false]) 13 rfl (by kernel_rfl) rfl ?_
            refine WL.store (k := 4) hS sizeT_86 rfl rfl rfl rfl (by simp) ?_
            intro w hS
            try simp only [List.set] at hS
            refine WL.nil ?_
            refine QN.held trivial ?_
            refine WH.take (listed' := #[true, true, true, true, true, true, true, true, true, true, true, true, true, true, true, false, false, false, false, false]) 14 rfl (by kernel_rfl) (by kernel_rfl) (by kernel_rfl) (fun _ _ _ h => h) rfl (fun w _ => PV.rv (pv_nil rfl) w) trivial rfl ?_
            refine WH.take (listed' := #[true, true, true, true, true, true, true, true, true, true, true, true, true, true, true, true, false, false, false, false]) 15 rfl (by kernel_rfl) (by kernel_rfl) (by kernel_rfl) (fun _ _ _ h => h) rfl (fun w _ => PV.rv (pv_fieldAddrZ fldT_116_4 rfl) w) trivial rfl ?_
            refine WH.one (listed' := #[true, true, true, true, true, true, true, true, true, true, true, true, true, true, true, true, true, false, false, false]) 16 rfl (by kernel_rfl) rfl ?_
            refine WL.storeA (k := 4) (vs := [.slice E1 e1 f1, .slice E2 e2 f2]) hS (by rw [sizeT_78]; simp) rfl rfl rfl (by first | (simp; done) | simp [Value.oneCell']) (by simp) ?_
            intro w hS
            try simp only [List.set] at hS
            simp only [List.take_succ_cons, List.take_zero, List.drop_succ_cons, List.drop_zero, List.cons_append, List.nil_append, List.length_cons, List.length_nil, Nat.zero_add, Nat.reduceAdd] at hS
            refine WL.nil ?_
            refine QN.held trivial ?_
            refine WH.take (listed' := #[true, true, true, true, true, true, true, true, true, true, true, true, true, true, true, true, true, true, false, false]) 17 rfl (by kernel_rfl) (by kernel_rfl) (by kernel_rfl) (fun _ _ _ h => h) rfl (fun w _ => PV.rv (pv_nil rfl) w) trivial rfl ?_
            refine WH.take (listed' := #[true, true, true, true, true, true, true, true, true, true, true, true, true, true, true, true, true, true, true, false]) 18 rfl (by kernel_rfl) (by kernel_rfl) (by kernel_rfl) (fun _ _ _ h => h) rfl (fun w _ => PV.rv (pv_fieldAddrZ fldT_116_3 rfl) w) trivial rfl ?_
            refine WH.one (listed' := #[true, true, true, true, true, true, true, true, true, true, true, true, true, true, true, true, true, true, true, true]) 19 rfl (by kernel_rfl) rfl ?_
            refine WL.store (k := 4) hS sizeT_3 rfl rfl rfl rfl (by simp) ?_
            intro w hS
            try simp only [List.set] at hS
            refine WL.nil ?_
            refine QN.held trivial ?_
            refine WH.done (by kernel_rfl) ?_
            refine QN.thenW ?_
            refine WC.seq ?_
            refine WC.region ?_
            refine WL.pv (pv_assign rfl) rfl ?_
            refine WL.nil ?_
            refine QN.thenW ?_
            refine WC.ret ?_
            refine QN.ret1 rfl rfl ?_
            exact ⟨rfl, _, _, _, _, _, ⟨j, q, by omega, by omega, rfl⟩, ((hS.top 1 rfl).top 4 rfl).sub (.cons_cons _ (.cons_cons _ (.cons_cons _ (.cons _ (.cons _ (.cons _ (.cons _ (.cons_cons _ (.cons_cons _ (.cons_cons _ .slnil))))))))))⟩
          · skip
            refine WL.call (args := [.tmp 106]) cf_77 rfl rfl (own_c _ _ _ _ _ _ s1 s2 _ (r1.frN hS.fr hN1) (r2.frN hS.fr hN2) hl1 hl2) ?_
            rintro _ w ⟨v1, v2, rfl, hS2⟩
            refine ⟨_, rfl, ?_⟩
            replace hS := hS.join hS2
            simp only [List.cons_append, List.nil_append] at hS
            obtain ⟨E1, e1, f1, rfl, _, _, _⟩ := (hS.rw_ (k := 1) rfl).anyForm
            obtain ⟨E2, e2, f2, rfl, _, _, _⟩ := (hS.rw_ (k := 0) rfl).anyForm
            refine WL.nil ?_
            refine QN.held trivial ?_
            refine WH.one (listed' := #[true, true, true, true, true, true, true, false, true, true, true, false, false, false, false, false, false, false, false, false]) 6 rfl (by kernel_rfl) rfl ?_
            refine WL.rv (rv_load_blk (k := 4) hS oneT_86 rfl rfl rfl) rfl ?_
            refine WL.nil ?_
            refine QN.held trivial ?_
            refine WH.take (listed' := #[true, true, true, true, true, true, true, true, true, true, true, false, false, false, false, false, false, false, false, false]) 7 rfl (by kernel_rfl) (by kernel_rfl) (by kernel_rfl) (fun _ _ _ h => h) rfl (fun w _ => PV.rv (pv_add64 (b := 1) rfl rfl) w) trivial rfl ?_
            refine WH.take (listed' := #[true, true, true, true, true, true, true, true, true, true, true, true, false, false, false, false, false, false, false, false]) 11 rfl (by kernel_rfl) (by kernel_rfl) (by kernel_rfl) (fun _ _ _ h => h) rfl (fun w _ => PV.rv (pv_nil rfl) w) trivial rfl ?_
            refine WH.take (listed' := #[true, true, true, true, true, true, true, true, true, true, true, true, true, false, false, false, false, false, false, false]) 12 rfl (by kernel_rfl) (by kernel_rfl) (by kernel_rfl) (fun _ _ _ h => h) rfl (fun w _ => PV.rv (pv_fieldAddrZ fldT_116_2 rfl) w) trivial rfl ?_
            refine WH.one (listed' := #[true, true, true, true, true, true, true, true, true, true, true, true, true, true, false, false, false, false, false, false]) 13 rfl (by kernel_rfl) rfl ?_
            refine WL.store (k := 4) hS sizeT_86 rfl rfl rfl rfl (by simp) ?_
            intro w hS
            try simp only [List.set] at hS
            refine WL.nil ?_
            refine QN.held trivial ?_
            refine WH.take (listed' := #[true, true, true, true, true, true, true, true, true, true, true, true, true, true, true, false, false, false, false, false]) 14 rfl (by kernel_rfl) (by kernel_rfl) (by kernel_rfl) (fun _ _ _ h => h) rfl (fun w _ => PV.rv (pv_nil rfl) w) trivial rfl ?_
            refine WH.take (listed' := #[true, true, true, true, true, true, true, true, true, true, true, true, true, true, true, true, false, false, false, false]) 15 rfl (by kernel_rfl) (by kernel_rfl) (by kernel_rfl) (fun _ _ _ h => h) rfl (fun w _ => PV.rv (pv_fieldAddrZ fldT_116_4 rfl) w) trivial rfl ?_
            refine WH.one (listed' := #[true, true, true, true, true, true, true, true, true, true, true, true, true, true, true, true, true, false, false, false]) 16 rfl (by kernel_rfl) rfl ?_
            refine WL.storeA (k := 4) (vs := [.slice E1 e1 f1, .slice E2 e2 f2]) hS (by rw [sizeT_78]; simp) rfl rfl rfl (by first | (simp; done) | simp [Value.oneCell']) (by simp) ?_
            intro w hS
            try simp only [List.set] at hS
            simp only [List.take_succ_cons, List.take_zero, List.drop_succ_cons, List.drop_zero, List.cons_append, List.nil_append, List.length_cons, List.length_nil, Nat.zero_add, Nat.reduceAdd] at hS
            refine WL.nil ?_
            refine QN.held trivial ?_
            refine WH.take (listed' := #[true, true, true, true, true, true, true, true, true, true, true, true, true, true, true, true, true, true, false, false]) 17 rfl (by kernel_rfl) (by kernel_rfl) (by kernel_rfl) (fun _ _ _ h => h) rfl (fun w _ => PV.rv (pv_nil rfl) w) trivial rfl ?_
            refine WH.take (listed' := #[true, true, true, true, true, true, true, true, true, true, true, true, true, true, true, true, true, true, true, false]) 18 rfl (by kernel_rfl) (by kernel_rfl) (by kernel_rfl) (fun _ _ _ h => h) rfl (fun w _ => PV.rv (pv_fieldAddrZ fldT_116_3 rfl) w) trivial rfl ?_
            refine WH.one (listed' := #[true, true, true, true, true, true, true, true, true, true, true, true, true, true, true, true, true, true, true, true]) 19 rfl (by kernel_rfl) rfl ?_
            refine WL.store (k := 4) hS sizeT_3 rfl rfl rfl rfl (by simp) ?_
            intro w hS
            try simp only [List.set] at hS
            refine WL.nil ?_
            refine QN.held trivial ?_
            refine WH.done (by kernel_rfl) ?_
            refine QN.thenW ?_
            refine WC.seq ?_
            refine WC.region ?_
            refine WL.pv (pv_assign rfl) rfl ?_
            refine WL.nil ?_
            refine QN.thenW ?_
            refine WC.ret ?_
            refine QN.ret1 rfl rfl ?_
            exact ⟨rfl, _, _, _, _, _, ⟨j, q, by omega, by omega, rfl⟩, ((hS.top 1 rfl).top 4 rfl).sub (.cons_cons _ (.cons_cons _ (.cons_cons _ (.cons _ (.cons _ (.cons _ (.cons _ (.cons_cons _ (.cons_cons _ (.cons_cons _ .slnil))))))))))⟩

end Go.Proofs.Ytjcebkhhgdgohaa
namespace Go.Proofs.Ytjcebkhhgdgohaa
open Go Go.RowKit Go.Eng


theorem areaB_in (ss : List (List UInt8)) (s : Nat) (B : List UInt8) (k : Nat) (hl : s + k ≤ ss.length) : ∀ i, i ≤ k → areaB (sK ss s B k) s i = B.take (64 * i)
  | 0, _ => by simp [areaB]
  | i + 1, h => by
    rw [areaB_succ, areaB_in ss s B k hl i (by omega), sK_in ss s B i k (by omega) hl, show 64 * (i + 1) = 64 * i + 64 from by omega, List.take_add]
theorem areaB_same {ss ss' : List (List UInt8)} {s : Nat} : ∀ {i : Nat}, (∀ j, j < i → ss'.getD (s + j) [] = ss.getD (s + j) []) → areaB ss' s i = areaB ss s i
  | 0, _ => rfl
  | i + 1, h => by rw [areaB_succ, areaB_succ, areaB_same (fun j hj => h j (by omega)), h i (by omega)]
theorem areaB_two (ss : List (List UInt8)) (s half : Nat) (B : List UInt8) (q : Nat) (hl : s + half ≤ ss.length) (hB : B.length = 64 * q) (hq : q ≤ half) : ∀ i, q ≤ i → i ≤ half → areaB (sK (sK ss s (zB half) half) s B q) s i = B ++ List.replicate (64 * (i - q)) 0
  | 0, h, _ => by
    obtain rfl : q = 0 := by omega
    have : B = [] := List.eq_nil_of_length_eq_zero (by omega)
    subst this; rfl
  | i + 1, h, h2 => by
    by_cases hi : q = i + 1
    · subst hi
      rw [areaB_in _ _ _ _ (by rw [sK_len]; omega) _ (Nat.le_refl _), List.take_of_length_le (by omega), Nat.sub_self, Nat.mul_zero, List.replicate_zero, List.append_nil]
    · rw [areaB_succ, areaB_two ss s half B q hl hB hq i (by omega) (by omega), sK_out _ _ _ _ _ (by omega), sK_in _ _ _ _ _ (by omega) hl, zB_at (by omega), zSec, List.append_assoc, List.replicate_append_replicate]
      congr 2; omega
theorem Sav.dsk {n half ar : Nat} {num : UInt64} {s1 s2 : List UInt8} {ss ss' : List (List UInt8)} (h : Sav ss ss' half ar num s1 s2) (hd : Dsk n ss) : Dsk n ss' := by
  obtain ⟨j, q, hj, hq, rfl⟩ := h
  exact sK_dsk (sK_dsk hd (by rw [zB, List.length_replicate]; omega)) (by rw [List.length_append, List.length_replicate]; omega)
theorem Sav.new {n half ar : Nat} {num : UInt64} {s1 s2 : List UInt8} {ss ss' : List (List UInt8)} (h : Sav ss ss' half ar num s1 s2) (hd : Dsk n ss) (hh : ar * half + half ≤ n) (h1 : s1.length ≤ 4000) (h2 : s2.length ≤ 4000) : AI ss' half ar (num, s1, s2) := by
  obtain ⟨j, q, hj, hq, rfl⟩ := h
  refine ⟨⟨shaV (recH num s1 s2) ++ (List.replicate j 0 ++ List.replicate (64 * (half - q)) 0), ?_, .inr ⟨_, rfl⟩⟩, h1, h2⟩
  rw [areaB_two ss (ar * half) half _ q (by rw [hd.len]; exact hh) (by rw [List.length_append, List.length_replicate]; exact hj) hq half hq (Nat.le_refl _), recB]
  simp only [List.append_assoc]
theorem Sav.old {half ar br : Nat} {num : UInt64} {s1 s2 : List UInt8} {ss ss' : List (List UInt8)} {r : UInt64 × List UInt8 × List UInt8} (h : Sav ss ss' half ar num s1 s2) (hne : ar = 0 ∧ br = 1 ∨ ar = 1 ∧ br = 0) (k : AI ss half br r) : AI ss' half br r := by
  obtain ⟨j, q, hj, hq, rfl⟩ := h
  obtain ⟨rest, hX, hr⟩ := k.is
  refine ⟨⟨rest, ?_, hr⟩, k.l1, k.l2⟩
  rw [← hX]
  refine areaB_same fun i hi => ?_
  rcases hne with ⟨rfl, rfl⟩ | ⟨rfl, rfl⟩
  · rw [sK_out _ _ _ _ _ (by omega), sK_out _ _ _ _ _ (by omega)]
  · rw [sK_out _ _ _ _ _ (by omega), sK_out _ _ _ _ _ (by omega)]
/-- How long the slices of a state that came in are. -/
theorem st_sized {H : Type} {enc : TypeId × Value → H} {w : World} {base fuel j : Nat} {ts : List TypeId} {ds : List (DataW H)} {dd : DataW H} {p : List MemPlace} {A1 A2 : Option Addr} {m1 c1 m2 c2 : Nat}
    (hsz : (DataW.weightsEach Try.prog ts ds).all (· ≤ reachBytes) = true) (ht : ts[j]? = some 78) (hd : ds[j]? = some dd) (hf : DataW.trod enc Try.prog w base (fun _ => true) true fuel 78 [.slice A1 m1 c1, .slice A2 m2 c2] = some (dd, p)) : m1 ≤ 140737488351232 ∧ m2 ≤ 140737488351232 := by
  have c22 : Try.prog.cellsOf 22 = 1 := by kernel_rfl
  obtain ⟨xs, n, _, hx, hl, hxl, hfld⟩ := DataW.trod_struct Try.underlying78 hf
  injection hx with hx _
  have h0 := hfld 0 _ rfl
  have h1 := hfld 1 _ rfl
  obtain ⟨x0, x1, rfl⟩ : ∃ x0 x1, xs = [x0, x1] := by
    match xs, hxl with
    | [x0, x1], _ => exact ⟨x0, x1, rfl⟩
  have hw : (DataW.weightsEach Try.prog [22, 22] [x0.1, x1.1]).all (· ≤ reachBytes) = true := by
    refine List.all_eq_true.2 fun y hy => ?_
    refine List.all_eq_true.1 hsz y (DataW.weights_mem_each ht hd y ?_)
    rw [hx]
    simp only [DataW.weights, Try.underlying78]
    exact hy
  have e0 : DataW.trod enc Try.prog w base (fun _ => true) true n 22 [.slice A1 m1 c1] = some (x0.1, x0.2) := by simpa [c22] using h0
  have e1 : DataW.trod enc Try.prog w base (fun _ => true) true n 22 [.slice A2 m2 c2] = some (x1.1, x1.2) := by simpa [c22] using h1
  exact ⟨reach_of hw (j := 0) rfl rfl Try.underlying22 (by kernel_rfl) e0, reach_of hw (j := 1) rfl rfl Try.underlying22 (by kernel_rfl) e1⟩

end Go.Proofs.Ytjcebkhhgdgohaa
namespace Go.Proofs.Ytjcebkhhgdgohaa
open Go Go.RowKit Go.Eng
theorem cf_53 : callable Try.prog 53 = true := by kernel_rfl
theorem cf_55 : callable Try.prog 55 = true := by kernel_rfl

theorem recB_len (num : UInt64) (s1 s2 : List UInt8) : (recB num s1 s2).length = 8 + (textB s1).length + (textB s2).length + 32 := by
  rw [recB, List.length_append, shaV_len]; simp only [recH, List.length_append, beB_len]
theorem textB_ge (t : List UInt8) : t.length + 1 ≤ (textB t).length := by
  have := smallB_pos (UInt64.ofNat t.length)
  rw [textB, List.length_append]; omega
theorem nDisk_nat {n : Nat} (h : n ≤ 2048) : nDisk (n : Int) = n := by unfold nDisk; omega
theorem pv_addN {P : Program} {l : Env} {d : Nat} {ty : TypeId} {pos : String} {af : Array Edge} {T U : TypeId} {x y : Operand} {a b : Nat} (hx : ev l x = some (.int .i64 (a : Int))) (hy : ev l y = some (.int .i64 (b : Int))) (h : a + b ≤ 9223372036854775807) : PV P l ⟨some d, .binOp .add T x y U, ty, pos, af, none⟩ (.int .i64 ((a + b : Nat) : Int)) := by
  rw [Int.natCast_add]; exact pv_add hx hy (by omega)
theorem pv_mulN {P : Program} {l : Env} {d : Nat} {ty : TypeId} {pos : String} {af : Array Edge} {T U : TypeId} {x y : Operand} {a b : Nat} (hx : ev l x = some (.int .i64 (a : Int))) (hy : ev l y = some (.int .i64 (b : Int))) (h : a * b ≤ 9223372036854775807) : PV P l ⟨some d, .binOp .mul T x y U, ty, pos, af, none⟩ (.int .i64 ((a * b : Nat) : Int)) := by
  rw [Int.natCast_mul]; exact pv_mul hx hy (by rw [← Int.natCast_mul]; omega)

set_option maxHeartbeats 1000000 in
set_option maxRecDepth 100000 in
theorem journalRefused_c (B1 B2 B3 B4 : Option Addr) (k1 d1 k2 d2 k3 d3 k4 d4 : Nat) (s1 s2 s3 s4 : List UInt8) (q : UInt8) (w0 : World) (r1 : Rs w0 (.slice B1 k1 d1) 1 (bs8 s1)) (r2 : Rs w0 (.slice B2 k2 d2) 1 (bs8 s2)) (r3 : Rs w0 (.slice B3 k3 d3) 1 (bs8 s3)) (r4 : Rs w0 (.slice B4 k4 d4) 1 (bs8 s4)) (hk1 : k1 ≤ 140737488351232) (hk2 : k2 ≤ 140737488351232) (hk3 : k3 ≤ 140737488351232) (hk4 : k4 ≤ 140737488351232) : Calls Try.prog 18 #[.agg #[.slice B1 k1 d1, .slice B2 k2 d2], .agg #[.slice B3 k3 d3, .slice B4 k4 d4], b8 q] w0 fun e w => e = .returned (.bool true) ∧ Fr No w0 w := by
  have hl1 := r1.len
  have hl2 := r2.len
  have hl3 := r3.len
  have hl4 := r4.len
  rw [bs8_len] at hl1 hl2 hl3 hl4
  have hN : nDisk (((4 + q.toNat % 40) : Nat) : Int) = (4 + q.toNat % 40) := nDisk_nat (by omega)
  refine calls_of_WC (args := [.agg #[.slice B1 k1 d1, .slice B2 k2 d2], .agg #[.slice B3 k3 d3, .slice B4 k4 d4], b8 q]) Try.func18 rfl Try.ntmps18 rfl ?_
  show WC _ _ _ _ [(0, .agg #[.slice B1 k1 d1, .slice B2 k2 d2]), (1, .agg #[.slice B3 k3 d3, .slice B4 k4 d4]), (2, b8 q)] _
  have hS := ST.start w0 No
  refine WC.seq ?_
  refine WC.region ?_
  refine WL.box (vs := [.slice B1 k1 d1, .slice B2 k2 d2]) hS rfl rfl rfl ?_
  intro ba w hba hS
  refine WL.box (vs := [.slice B3 k3 d3, .slice B4 k4 d4]) hS rfl rfl rfl ?_
  intro bb w hbb hS
  refine WL.pv (pv_assign rfl) rfl ?_
  refine WL.nil ?_
  refine QN.thenW ?_
  refine WC.seq ?_
  refine WC.seq ?_
  refine WC.region ?_
  refine WL.call (args := []) cf_48 rfl rfl (wakesJ_c _) ?_
  rintro _ w ⟨rfl, hF⟩
  refine ⟨_, rfl, ?_⟩
  replace hS := hS.no hF
  refine WL.pv (pv_not rfl) rfl ?_
  refine WL.nil ?_
  refine QN.thenW ?_
  refine WC.condF rfl rfl ?_
  refine WC.skip ?_
  refine QN.thenW ?_
  refine WC.seq ?_
  refine WC.seq ?_
  by_cases hA : 2000 < k1 + k2
  · skip
    refine WC.region ?_
    refine WL.pv (pv_fieldAddrZ fldT_78_0 rfl) rfl ?_
    refine WL.rv (rv_load_blk (k := 1) hS oneT_22 rfl rfl rfl) rfl ?_
    refine WL.pv (pv_len slS_22 rfl) rfl ?_
    refine WL.pv (pv_fieldAddrZ fldT_78_1 rfl) rfl ?_
    refine WL.rv (rv_load_blk (k := 1) hS oneT_22 rfl rfl rfl) rfl ?_
    refine WL.pv (pv_len slS_22 rfl) rfl ?_
    refine WL.pv (pv_add rfl rfl (by omega)) rfl ?_
    refine WL.pv (pv_gtr rfl rfl) rfl ?_
    refine WL.pv (pv_move rfl) rfl ?_
    refine WL.guardF rfl rfl rfl (lkT rfl (by omega)) rfl rfl ?_
    refine WL.guardF rfl rfl rfl (lkT rfl (by omega)) rfl rfl ?_
    refine WL.guardF rfl rfl rfl (lkT rfl (by omega)) rfl rfl ?_
    refine WL.guardF rfl rfl rfl (lkT rfl (by omega)) rfl rfl ?_
    refine WL.guardF rfl rfl rfl (lkT rfl (by omega)) rfl rfl ?_
    refine WL.guardF rfl rfl rfl (lkT rfl (by omega)) rfl rfl ?_
    refine WL.guardF rfl rfl rfl (lkT rfl (by omega)) rfl rfl ?_
    refine WL.guardF rfl rfl rfl (lkT rfl (by omega)) rfl rfl ?_
    refine WL.pv (pv_pick1 (lkT rfl (by omega)) rfl) rfl ?_
    refine WL.nil ?_
    refine QN.thenW ?_
    refine WC.condT rfl rfl ?_
    refine WC.seq ?_
    refine WC.region ?_
    refine WL.pv (pv_assign rfl) rfl ?_
    refine WL.nil ?_
    refine QN.thenW ?_
    refine WC.ret ?_
    refine QN.thenR ?_
    refine QN.ret1 rfl rfl ?_
    exact ⟨rfl, hS.fr⟩
  · skip
    refine WC.region ?_
    refine WL.pv (pv_fieldAddrZ fldT_78_0 rfl) rfl ?_
    refine WL.rv (rv_load_blk (k := 1) hS oneT_22 rfl rfl rfl) rfl ?_
    refine WL.pv (pv_len slS_22 rfl) rfl ?_
    refine WL.pv (pv_fieldAddrZ fldT_78_1 rfl) rfl ?_
    refine WL.rv (rv_load_blk (k := 1) hS oneT_22 rfl rfl rfl) rfl ?_
    refine WL.pv (pv_len slS_22 rfl) rfl ?_
    refine WL.pv (pv_add rfl rfl (by omega)) rfl ?_
    refine WL.pv (pv_gtr rfl rfl) rfl ?_
    refine WL.pv (pv_move rfl) rfl ?_
    refine WL.guardT rfl rfl rfl (lkF rfl (by omega)) ?_
    refine WL.pv (pv_fieldAddrZ fldT_78_0 rfl) rfl ?_
    refine WL.guardT rfl rfl rfl (lkF rfl (by omega)) ?_
    refine WL.rv (rv_load_blk (k := 0) hS oneT_22 rfl rfl rfl) rfl ?_
    refine WL.guardT rfl rfl rfl (lkF rfl (by omega)) ?_
    refine WL.pv (pv_len slS_22 rfl) rfl ?_
    refine WL.guardT rfl rfl rfl (lkF rfl (by omega)) ?_
    refine WL.pv (pv_fieldAddrZ fldT_78_1 rfl) rfl ?_
    refine WL.guardT rfl rfl rfl (lkF rfl (by omega)) ?_
    refine WL.rv (rv_load_blk (k := 0) hS oneT_22 rfl rfl rfl) rfl ?_
    refine WL.guardT rfl rfl rfl (lkF rfl (by omega)) ?_
    refine WL.pv (pv_len slS_22 rfl) rfl ?_
    refine WL.guardT rfl rfl rfl (lkF rfl (by omega)) ?_
    refine WL.pv (pv_add rfl rfl (by omega)) rfl ?_
    refine WL.guardT rfl rfl rfl (lkF rfl (by omega)) ?_
    refine WL.pv (pv_gtr rfl rfl) rfl ?_
    refine WL.pv (pv_pick0 (lkF rfl (by omega)) rfl) rfl ?_
    refine WL.nil ?_
    refine QN.thenW ?_
    refine WC.condD rfl (fun hc33 => ?_) (fun hc33 => ?_)
    · skip
      refine WC.seq ?_
      refine WC.region ?_
      refine WL.pv (pv_assign rfl) rfl ?_
      refine WL.nil ?_
      refine QN.thenW ?_
      refine WC.ret ?_
      refine QN.thenR ?_
      refine QN.ret1 rfl rfl ?_
      exact ⟨rfl, hS.fr⟩
    · skip
      have hB : ¬ 2000 < k3 + k4 := by omega
      refine WC.skip ?_
      refine QN.thenW ?_
      refine WC.seq ?_
      refine WC.region ?_
      refine WL.pv (pv_move rfl) rfl ?_
      refine WL.pv (pv_conv someT_5 Try.underlying3 rfl (cv_8_i _)) rfl ?_
      refine WL.pv (pv_remN (a := q.toNat) (b := 40) rfl rfl (by omega)) rfl ?_
      refine WL.pv (pv_addN (a := 4) (b := q.toNat % 40) rfl rfl (by omega)) rfl ?_
      refine WL.pv (pv_assign rfl) rfl ?_
      refine WL.nil ?_
      refine QN.thenW ?_
      refine WC.seq ?_
      refine WC.region ?_
      refine WL.pv (pv_move rfl) rfl ?_
      refine WL.call (args := [.tmp 38]) cf_49 rfl rfl (newK_c (((4 + q.toNat % 40) : Nat) : Int) _) ?_
      rintro _ w ⟨bd, bn, vs, rfl, hS2⟩
      refine ⟨_, rfl, ?_⟩
      replace hS := hS.join hS2
      rw [hN] at hS
      simp only [esK, List.cons_append, List.nil_append] at hS
      refine WL.pv (pv_assign rfl) rfl ?_
      refine WL.nil ?_
      refine QN.thenW ?_
      refine WC.seq ?_
      refine WC.region ?_
      refine WL.pv (pv_move rfl) rfl ?_
      refine WL.call (args := [.tmp 41]) cf_50 rfl rfl (open_c bd bn (4 + q.toNat % 40) vs (.slice none 0 0) _ (hS.bk (k := 0) rfl) (List.replicate (4 + q.toNat % 40) zSec) (hS.bk (k := 1) rfl) (hN ▸ Dsk.zero _) (by omega) AR0 (fun k hk => AI_zero (by rcases (show k = 0 ∨ k = 1 by omega) with rfl | rfl <;> omega) (by omega))) ?_
      rintro _ w ⟨bj, A1, A2, m1, c1, m2, c2, rfl, hS2⟩
      refine ⟨_, rfl, ?_⟩
      replace hS := hS.join hS2
      simp only [opn_zero, List.cons_append, List.nil_append] at hS
      replace hS : ST w0 No _ (.blk bb 78 [.slice B3 k3 d3, .slice B4 k4 d4] :: .blk ba 78 [.slice B1 k1 d1, .slice B2 k2 d2] :: (esJ bj bd ((4 + q.toNat % 40) / 2) 0 (-1) (.slice A1 m1 c1) (.slice A2 m2 c2) [] [] bn vs (.slice none 0 0) (4 + q.toNat % 40) (List.replicate (4 + q.toNat % 40) zSec))) := (hS.top 6 rfl).top 7 rfl |>.top 1 rfl
      refine WL.pv (pv_move rfl) rfl ?_
      refine WL.pv (pv_extL rfl rfl) rfl ?_
      refine WL.pv (pv_extL rfl rfl) rfl ?_
      refine WL.pv (pv_assign rfl) rfl ?_
      refine WL.pv (pv_assign rfl) rfl ?_
      refine WL.nil ?_
      refine QN.thenW ?_
      refine WC.seq ?_
      refine WC.seq ?_
      refine WC.region ?_
      refine WL.pv (pv_move rfl) rfl ?_
      refine WL.pv (pv_neq rfl rfl) rfl ?_
      refine WL.nil ?_
      refine QN.thenW ?_
      refine WC.condDF rfl (by simp) ?_
      refine WC.skip ?_
      refine QN.thenW ?_
      refine WC.seq ?_
      refine WC.region ?_
      refine WL.pv (pv_move rfl) rfl ?_
      refine WL.pv (pv_quoN (a := (4 + q.toNat % 40)) (b := 2) rfl rfl (by omega) (by omega)) rfl ?_
      refine WL.rv (rv_load_all (k := 1) hS rfl rfl (by rw [aggT_78]; simp)) rfl ?_
      refine WL.call (args := [.tmp 48, .const (.int .u64 1), .tmp 49]) cf_55 rfl rfl (fits_c ((4 + q.toNat % 40) / 2) 1 _ _ _ _ _ _ s1 s2 _ (r1.no hS.fr) (r2.no hS.fr) (by omega) (by omega) (by omega)) ?_
      rintro _ w ⟨rfl, hF⟩
      refine ⟨_, rfl, ?_⟩
      replace hS := hS.no hF
      refine WL.pv (pv_assign rfl) rfl ?_
      refine WL.nil ?_
      refine QN.thenW ?_
      refine WC.cut (α := UInt64 × Int × Value × Value × List UInt8 × List UInt8 × Value × Value × List (List UInt8)) (fun s => [(3, .pointer (some ⟨ba, 0, none⟩)), (4, .pointer (some ⟨bb, 0, none⟩)), (7, .int .i64 (((4 + q.toNat % 40) : Nat) : Int)), (9, .pointer (some ⟨bj, 0, none⟩)), (11, .bool (decide ((recB 1 s1 s2).length ≤ 64 * ((4 + q.toNat % 40) / 2))))]) (fun s w => (s.1.toNat ≤ 1 ∧ (((recB 1 s1 s2).length ≤ 64 * ((4 + q.toNat % 40) / 2)) → s.2.1 = 0 ∧ s.2.2.2.2.1 = s1 ∧ s.2.2.2.2.2.1 = s2) ∧ (¬ ((recB 1 s1 s2).length ≤ 64 * ((4 + q.toNat % 40) / 2)) → s.2.1 = -1) ∧ Dsk (4 + q.toNat % 40) s.2.2.2.2.2.2.2.2) ∧ ST w0 No w (.blk bb 78 [.slice B3 k3 d3, .slice B4 k4 d4] :: .blk ba 78 [.slice B1 k1 d1, .slice B2 k2 d2] :: (esJ bj bd ((4 + q.toNat % 40) / 2) s.1 s.2.1 s.2.2.1 s.2.2.2.1 s.2.2.2.2.1 s.2.2.2.2.2.1 bn s.2.2.2.2.2.2.1 s.2.2.2.2.2.2.2.1 (4 + q.toNat % 40) s.2.2.2.2.2.2.2.2))) ?_ ?_
      · skip
        refine WC.seq ?_
        by_cases hf1 : (recB 1 s1 s2).length ≤ 64 * ((4 + q.toNat % 40) / 2)
        · skip
          refine WC.region ?_
          refine WL.pv (pv_move rfl) rfl ?_
          refine WL.rv (rv_load_all (k := 1) hS rfl rfl (by rw [aggT_78]; simp)) rfl ?_
          refine WL.call (args := [.tmp 51, .tmp 52]) cf_51 rfl rfl (save_c bj bd ((4 + q.toNat % 40) / 2) 0 (-1) A1 A2 m1 c1 m2 c2 [] [] bn vs (.slice none 0 0) (4 + q.toNat % 40) (List.replicate (4 + q.toNat % 40) zSec) _ (ST.part (fr := [_, _]) (es := (esJ bj bd ((4 + q.toNat % 40) / 2) 0 (-1) (.slice A1 m1 c1) (.slice A2 m2 c2) [] [] bn vs (.slice none 0 0) (4 + q.toNat % 40) (List.replicate (4 + q.toNat % 40) zSec))) hS) (by decide) (hN ▸ Dsk.zero _) _ _ _ _ _ _ s1 s2 (r1.no hS.fr) (r2.no hS.fr) (fun h0 b hb hc => ST.notOurs (hp := [_, _] ++ (esJ bj bd ((4 + q.toNat % 40) / 2) 0 (-1) (.slice A1 m1 c1) (.slice A2 m2 c2) [] [] bn vs (.slice none 0 0) (4 + q.toNat % 40) (List.replicate (4 + q.toNat % 40) zSec))) hS r1 h0 hb (Ours.front hc)) (fun h0 b hb hc => ST.notOurs (hp := [_, _] ++ (esJ bj bd ((4 + q.toNat % 40) / 2) 0 (-1) (.slice A1 m1 c1) (.slice A2 m2 c2) [] [] bn vs (.slice none 0 0) (4 + q.toNat % 40) (List.replicate (4 + q.toNat % 40) zSec))) hS r2 h0 hb (Ours.front hc)) (by omega) (by omega) (by omega) 0 (fun h => absurd h (by omega)) (fun _ => rfl) (by rw [recB_len] at hf1 ⊢; exact hf1)) ?_
          rintro _ w ⟨rfl, W1, W2, vs2, vp2, ss2, hsav, hS2⟩
          refine ⟨_, rfl, ?_⟩
          replace hS := ST.call (fr := [_, _]) (es := (esJ bj bd ((4 + q.toNat % 40) / 2) 0 (-1) (.slice A1 m1 c1) (.slice A2 m2 c2) [] [] bn vs (.slice none 0 0) (4 + q.toNat % 40) (List.replicate (4 + q.toNat % 40) zSec))) hS hS2
          simp only [List.cons_append, List.nil_append] at hS
          obtain ⟨num9, hold9, W1, W2, t1, t2, vs2, vp2, ss2, hfacts, hS⟩ : ∃ (num9 : UInt64) (hold9 : Int) (W1 W2 : Value) (t1 t2 : List UInt8) (vs2 vp2 : Value) (ss2 : List (List UInt8)), (num9.toNat ≤ 1 ∧ (((recB 1 s1 s2).length ≤ 64 * ((4 + q.toNat % 40) / 2)) → hold9 = 0 ∧ t1 = s1 ∧ t2 = s2) ∧ (¬ ((recB 1 s1 s2).length ≤ 64 * ((4 + q.toNat % 40) / 2)) → hold9 = -1) ∧ Dsk (4 + q.toNat % 40) ss2) ∧ ST w0 No _ (.blk bb 78 [.slice B3 k3 d3, .slice B4 k4 d4] :: .blk ba 78 [.slice B1 k1 d1, .slice B2 k2 d2] :: (esJ bj bd ((4 + q.toNat % 40) / 2) num9 hold9 W1 W2 t1 t2 bn vs2 vp2 (4 + q.toNat % 40) ss2)) := ⟨0 + 1, 0, W1, W2, s1, s2, vs2, vp2, ss2, ⟨by decide, fun _ => ⟨rfl, rfl, rfl⟩, fun h => absurd hf1 h, hsav.dsk (hN ▸ Dsk.zero _)⟩, hS⟩
          refine WL.pv (pv_eql rfl rfl) rfl ?_
          refine WL.pv (pv_move rfl) rfl ?_
          refine WL.pv (pv_neqB Try.underlying4 rfl rfl) rfl ?_
          refine WL.nil ?_
          refine QN.thenW ?_
          refine WC.condF rfl (by rw [decide_eq_true hf1]; rfl) ?_
          refine WC.skip ?_
          refine QN.midE ?_
          exact ⟨((num9, hold9, W1, W2, t1, t2, vs2, vp2, ss2)), (Sub.cons rfl (Sub.cons rfl (Sub.cons rfl (Sub.cons rfl (Sub.cons rfl Sub.nil))))), ⟨hfacts, hS⟩⟩
        · skip
          refine WC.region ?_
          refine WL.pv (pv_move rfl) rfl ?_
          refine WL.rv (rv_load_all (k := 1) hS rfl rfl (by rw [aggT_78]; simp)) rfl ?_
          refine WL.call (args := [.tmp 51, .tmp 52]) cf_51 rfl rfl (saveFull_c bj bd ((4 + q.toNat % 40) / 2) 0 (-1) A1 A2 m1 c1 m2 c2 [] [] bn vs (.slice none 0 0) (4 + q.toNat % 40) (List.replicate (4 + q.toNat % 40) zSec) _ (ST.part (fr := [_, _]) (es := (esJ bj bd ((4 + q.toNat % 40) / 2) 0 (-1) (.slice A1 m1 c1) (.slice A2 m2 c2) [] [] bn vs (.slice none 0 0) (4 + q.toNat % 40) (List.replicate (4 + q.toNat % 40) zSec))) hS) (by decide) (hN ▸ Dsk.zero _) _ _ _ _ _ _ s1 s2 (r1.no hS.fr) (r2.no hS.fr) (fun h0 b hb hc => ST.notOurs (hp := [_, _] ++ (esJ bj bd ((4 + q.toNat % 40) / 2) 0 (-1) (.slice A1 m1 c1) (.slice A2 m2 c2) [] [] bn vs (.slice none 0 0) (4 + q.toNat % 40) (List.replicate (4 + q.toNat % 40) zSec))) hS r1 h0 hb (Ours.front hc)) (fun h0 b hb hc => ST.notOurs (hp := [_, _] ++ (esJ bj bd ((4 + q.toNat % 40) / 2) 0 (-1) (.slice A1 m1 c1) (.slice A2 m2 c2) [] [] bn vs (.slice none 0 0) (4 + q.toNat % 40) (List.replicate (4 + q.toNat % 40) zSec))) hS r2 h0 hb (Ours.front hc)) (by omega) (by omega) (by omega) (by rw [recB_len] at hf1 ⊢; omega)) ?_
          rintro _ w ⟨rfl, hS2⟩
          refine ⟨_, rfl, ?_⟩
          replace hS := ST.call (fr := [_, _]) (es := (esJ bj bd ((4 + q.toNat % 40) / 2) 0 (-1) (.slice A1 m1 c1) (.slice A2 m2 c2) [] [] bn vs (.slice none 0 0) (4 + q.toNat % 40) (List.replicate (4 + q.toNat % 40) zSec))) hS hS2
          simp only [List.cons_append, List.nil_append] at hS
          obtain ⟨num9, hold9, W1, W2, t1, t2, vs2, vp2, ss2, hfacts, hS⟩ : ∃ (num9 : UInt64) (hold9 : Int) (W1 W2 : Value) (t1 t2 : List UInt8) (vs2 vp2 : Value) (ss2 : List (List UInt8)), (num9.toNat ≤ 1 ∧ (((recB 1 s1 s2).length ≤ 64 * ((4 + q.toNat % 40) / 2)) → hold9 = 0 ∧ t1 = s1 ∧ t2 = s2) ∧ (¬ ((recB 1 s1 s2).length ≤ 64 * ((4 + q.toNat % 40) / 2)) → hold9 = -1) ∧ Dsk (4 + q.toNat % 40) ss2) ∧ ST w0 No _ (.blk bb 78 [.slice B3 k3 d3, .slice B4 k4 d4] :: .blk ba 78 [.slice B1 k1 d1, .slice B2 k2 d2] :: (esJ bj bd ((4 + q.toNat % 40) / 2) num9 hold9 W1 W2 t1 t2 bn vs2 vp2 (4 + q.toNat % 40) ss2)) := ⟨0, -1, _, _, [], [], vs, _, _, ⟨by decide, fun h => absurd h hf1, fun _ => rfl, (hN ▸ Dsk.zero _)⟩, hS⟩
          refine WL.pv (pv_eql rfl rfl) rfl ?_
          refine WL.pv (pv_move rfl) rfl ?_
          refine WL.pv (pv_neqB Try.underlying4 rfl rfl) rfl ?_
          refine WL.nil ?_
          refine QN.thenW ?_
          refine WC.condF rfl (by rw [decide_eq_false hf1]; rfl) ?_
          refine WC.skip ?_
          refine QN.midE ?_
          exact ⟨((num9, hold9, W1, W2, t1, t2, vs2, vp2, ss2)), (Sub.cons rfl (Sub.cons rfl (Sub.cons rfl (Sub.cons rfl (Sub.cons rfl Sub.nil))))), ⟨hfacts, hS⟩⟩
      · rintro ⟨num9, hold9, W1, W2, t1, t2, vs2, vp2, ss2⟩ w hR
        change (num9.toNat ≤ 1 ∧ (((recB 1 s1 s2).length ≤ 64 * ((4 + q.toNat % 40) / 2)) → hold9 = 0 ∧ t1 = s1 ∧ t2 = s2) ∧ (¬ ((recB 1 s1 s2).length ≤ 64 * ((4 + q.toNat % 40) / 2)) → hold9 = -1) ∧ Dsk (4 + q.toNat % 40) ss2) ∧ ST w0 No w (.blk bb 78 [.slice B3 k3 d3, .slice B4 k4 d4] :: .blk ba 78 [.slice B1 k1 d1, .slice B2 k2 d2] :: (esJ bj bd ((4 + q.toNat % 40) / 2) num9 hold9 W1 W2 t1 t2 bn vs2 vp2 (4 + q.toNat % 40) ss2)) at hR
        show WC _ _ _ _ [(3, .pointer (some ⟨ba, 0, none⟩)), (4, .pointer (some ⟨bb, 0, none⟩)), (7, .int .i64 (((4 + q.toNat % 40) : Nat) : Int)), (9, .pointer (some ⟨bj, 0, none⟩)), (11, .bool (decide ((recB 1 s1 s2).length ≤ 64 * ((4 + q.toNat % 40) / 2))))] _
        obtain ⟨hfacts, hS⟩ := hR
        have hn9 := hfacts.1
        obtain ⟨A1, m1, c1, rfl, _, _, _⟩ := (hS.rw_ (k := 3) rfl).anyForm
        obtain ⟨A2, m2, c2, rfl, _, _, _⟩ := (hS.rw_ (k := 4) rfl).anyForm
        refine WC.seq ?_
        refine WC.seq ?_
        refine WC.region ?_
        refine WL.pv (pv_move rfl) rfl ?_
        refine WL.pv (pv_move rfl) rfl ?_
        refine WL.pv (pv_mulN (a := 32) (b := (4 + q.toNat % 40)) rfl rfl (by omega)) rfl ?_
        refine WL.pv (pv_addN (a := 32 * (4 + q.toNat % 40)) (b := 1) rfl rfl (by omega)) rfl ?_
        refine WL.makeB (c := (32 * (4 + q.toNat % 40) + 1)) hS slT_22 zeroT_5 (by simp) rfl rfl (by omega) (by simp only [maxLen]; omega) rfl ?_
        intro bz w hbz hS
        rw [show (List.replicate (32 * (4 + q.toNat % 40) + 1) [b8 0]).flatten = bs8 (List.replicate (32 * (4 + q.toNat % 40) + 1) 0) from by simp [bs8]] at hS
        refine WL.pv (pv_buildS (parts := [(0, .tmp 61)]) (cells := [.slice (some ⟨bz, 0, none⟩) (32 * (4 + q.toNat % 40) + 1) (32 * (4 + q.toNat % 40) + 1), .slice none 0 0]) layT_78 zeroT_78 rfl rfl) rfl ?_
        refine WL.call (args := [.tmp 57, .tmp 62]) cf_51 rfl rfl (saveFull_c bj bd ((4 + q.toNat % 40) / 2) num9 hold9 A1 A2 m1 c1 m2 c2 t1 t2 bn vs2 vp2 (4 + q.toNat % 40) ss2 _ (ST.part (fr := [_, _, _]) (es := (esJ bj bd ((4 + q.toNat % 40) / 2) num9 hold9 (.slice A1 m1 c1) (.slice A2 m2 c2) t1 t2 bn vs2 vp2 (4 + q.toNat % 40) ss2)) hS) (by omega) hfacts.2.2.2 _ _ _ _ _ _ (List.replicate (32 * (4 + q.toNat % 40) + 1) 0) [] (Bk.rsAll (hS.bk (k := 0) rfl) (by simp) (by simp only [maxLen]; omega)) Rs.nil (fun _ b hb => ST.notPart (fr := [_, _, _]) (es := (esJ bj bd ((4 + q.toNat % 40) / 2) num9 hold9 (.slice A1 m1 c1) (.slice A2 m2 c2) t1 t2 bn vs2 vp2 (4 + q.toNat % 40) ss2)) hS (k := 0) rfl hb) (fun h => absurd h (by simp [bs8])) (by simp; omega) (by simp) (by omega) (by rw [recB_len]; have := textB_ge (List.replicate (32 * (4 + q.toNat % 40) + 1) 0); rw [List.length_replicate] at this; omega)) ?_
        rintro _ w ⟨rfl, hS2⟩
        refine ⟨_, rfl, ?_⟩
        replace hS := ST.call (fr := [_, _, _]) (es := (esJ bj bd ((4 + q.toNat % 40) / 2) num9 hold9 (.slice A1 m1 c1) (.slice A2 m2 c2) t1 t2 bn vs2 vp2 (4 + q.toNat % 40) ss2)) hS hS2
        simp only [List.cons_append, List.nil_append] at hS
        replace hS := hS.drop
        refine WL.pv (pv_neq rfl rfl) rfl ?_
        refine WL.nil ?_
        refine QN.thenW ?_
        refine WC.condDF rfl (by simp) ?_
        refine WC.skip ?_
        refine QN.thenW ?_
        refine WC.seq ?_
        by_cases hf1 : (recB 1 s1 s2).length ≤ 64 * ((4 + q.toNat % 40) / 2)
        · skip
          obtain ⟨rfl, rfl, rfl⟩ := hfacts.2.1 hf1
          refine WC.region ?_
          refine WL.pv (pv_move rfl) rfl ?_
          refine WL.call (args := [.tmp 66]) cf_52 rfl rfl (state_c bj bd ((4 + q.toNat % 40) / 2) num9 0 A1 A2 m1 c1 m2 c2 _ (hS.bk (k := 2) rfl) t1 t2 (hS.rw_ (k := 3) rfl).rs (hS.rw_ (k := 4) rfl).rs (by omega) (by omega) (by omega)) ?_
          rintro _ w ⟨v1, v2, rfl, hS2⟩
          refine ⟨_, rfl, ?_⟩
          replace hS := hS.join hS2
          simp only [List.cons_append, List.nil_append] at hS
          obtain ⟨E1, e1, g1, rfl, _, _, _⟩ := (hS.rw_ (k := 1) rfl).anyForm
          obtain ⟨E2, e2, g2, rfl, _, _, _⟩ := (hS.rw_ (k := 0) rfl).anyForm
          refine WL.pv (pv_move rfl) rfl ?_
          refine WL.pv (pv_extL rfl rfl) rfl ?_
          refine WL.pv (pv_extL rfl rfl) rfl ?_
          refine WL.alloc hS zeroT_78 rfl ?_
          intro b12 w hb12 hS
          refine WL.storeAll (k := 0) (vs := [.slice E1 e1 g1, .slice E2 e2 g2]) hS (by rw [sizeT_78]; simp) rfl rfl rfl (by first | (simp; done) | simp [Value.oneCell']) (by simp) ?_
          intro w hS
          try simp only [List.set] at hS
          refine WL.pv (pv_assign rfl) rfl ?_
          refine WL.nil ?_
          refine QN.thenW ?_
          refine WC.seq ?_
          refine WC.seq ?_
          refine WC.region ?_
          refine WL.pv (pv_move rfl) rfl ?_
          refine WL.pv (pv_move rfl) rfl ?_
          refine WL.pv (pv_neqB Try.underlying4 rfl rfl) rfl ?_
          refine WL.pv (pv_move rfl) rfl ?_
          refine WL.guardT rfl rfl rfl (lkB rfl (by rw [decide_eq_true hf1]; rfl)) ?_
          refine WL.pv (pv_move rfl) rfl ?_
          refine WL.guardT rfl rfl rfl (lkB rfl (by rw [decide_eq_true hf1]; rfl)) ?_
          refine WL.pv (pv_move rfl) rfl ?_
          refine WL.guardT rfl rfl rfl (lkT rfl hf1) ?_
          refine WL.rv (rv_load_all (k := 0) hS rfl rfl (by rw [aggT_78]; simp)) rfl ?_
          refine WL.guardT rfl rfl rfl (lkT rfl hf1) ?_
          refine WL.rv (rv_load_all (k := 4) hS rfl rfl (by rw [aggT_78]; simp)) rfl ?_
          refine WL.guardT rfl rfl rfl (lkT rfl hf1) ?_
          refine WL.call (args := [.tmp 76, .tmp 77]) cf_53 rfl rfl (sameSt_c _ _ _ _ _ _ _ _ _ _ _ _ t1 t2 t1 t2 _ (hS.rw_ (k := 2) rfl).rs (hS.rw_ (k := 1) rfl).rs (r1.no hS.fr) (r2.no hS.fr)) ?_
          rintro _ w ⟨rfl, hF⟩
          refine ⟨_, rfl, ?_⟩
          replace hS := hS.no hF
          rw [decide_eq_true ⟨rfl, rfl⟩]
          refine WL.guardT rfl rfl rfl (lkT rfl hf1) ?_
          refine WL.pv (pv_not rfl) rfl ?_
          refine WL.guardT rfl rfl rfl (lkB rfl (by rw [decide_eq_true hf1]; rfl)) ?_
          refine WL.pv (pv_pick1 (lkT rfl hf1) rfl) rfl ?_
          refine WL.pv (pv_pick0 (lkB rfl (by rw [decide_eq_true hf1]; rfl)) rfl) rfl ?_
          refine WL.nil ?_
          refine QN.thenW ?_
          refine WC.condF rfl rfl ?_
          refine WC.skip ?_
          refine QN.thenW ?_
          refine WC.seq ?_
          by_cases hf2 : (recB 2 s3 s4).length ≤ 64 * ((4 + q.toNat % 40) / 2)
          · skip
            refine WC.draw (S := fun w => Bk w bb 78 [.slice B3 k3 d3, .slice B4 k4 d4]) (fuel := 10) (listed := #[false, false, false, false, false, false, false, false, false, false]) mixedO rfl rfl ?_
            have hS := hS.no (Fr.drew _)
            refine WH.take (listed' := #[true, false, false, false, false, false, false, false, false, false]) 0 rfl (by kernel_rfl) (by kernel_rfl) (by kernel_rfl) (fun _ _ _ h => h) rfl (fun w _ => PV.rv (pv_move rfl) w) (hS.bk (k := 3) rfl) rfl ?_
            refine WH.take (listed' := #[true, true, false, false, false, false, false, false, false, false]) 1 rfl (by kernel_rfl) (by kernel_rfl) (by kernel_rfl) (fun _ _ _ h => h) rfl (fun w hS => rv_loadA (cs := [.slice B3 k3 d3, .slice B4 k4 d4]) (by rw [aggT_78]; rfl) rfl (fun j u hu => by rw [Nat.zero_add, Bk.cell hS]; exact hu)) (hS.bk (k := 3) rfl) rfl ?_
            refine WH.take (listed' := #[true, true, false, false, true, false, false, false, false, false]) 4 rfl (by kernel_rfl) (by kernel_rfl) (by kernel_rfl) (fun _ _ _ h => h) rfl (fun w _ => PV.rv (pv_move rfl) w) (hS.bk (k := 3) rfl) rfl ?_
            refine WH.take (listed' := #[true, true, false, false, true, true, false, false, false, false]) 5 rfl (by kernel_rfl) (by kernel_rfl) (by kernel_rfl) (fun _ _ _ h => h) rfl (fun w _ => PV.rv (pv_quoN (a := (4 + q.toNat % 40)) (b := 2) rfl rfl (by omega) (by omega)) w) (hS.bk (k := 3) rfl) rfl ?_
            refine WH.take (listed' := #[true, true, false, false, true, true, true, false, false, false]) 6 rfl (by kernel_rfl) (by kernel_rfl) (by kernel_rfl) (fun _ _ _ h => h) rfl (fun w hS => rv_loadA (cs := [.slice B3 k3 d3, .slice B4 k4 d4]) (by rw [aggT_78]; rfl) rfl (fun j u hu => by rw [Nat.zero_add, Bk.cell hS]; exact hu)) (hS.bk (k := 3) rfl) rfl ?_
            refine WH.one (listed' := #[true, true, true, false, true, true, true, false, false, false]) 2 rfl (by kernel_rfl) rfl ?_
            refine WL.call (args := [.tmp 82, .tmp 83]) cf_51 rfl rfl (save_c bj bd ((4 + q.toNat % 40) / 2) num9 0 A1 A2 m1 c1 m2 c2 t1 t2 bn vs2 vp2 (4 + q.toNat % 40) ss2 _ (ST.part (fr := [_, _, _, _, _]) (es := (esJ bj bd ((4 + q.toNat % 40) / 2) num9 0 (.slice A1 m1 c1) (.slice A2 m2 c2) t1 t2 bn vs2 vp2 (4 + q.toNat % 40) ss2)) hS) (by omega) hfacts.2.2.2 _ _ _ _ _ _ s3 s4 (r3.no hS.fr) (r4.no hS.fr) (fun h0 b hb hc => ST.notOurs (hp := [_, _, _, _, _] ++ (esJ bj bd ((4 + q.toNat % 40) / 2) num9 0 (.slice A1 m1 c1) (.slice A2 m2 c2) t1 t2 bn vs2 vp2 (4 + q.toNat % 40) ss2)) hS r3 h0 hb (Ours.front hc)) (fun h0 b hb hc => ST.notOurs (hp := [_, _, _, _, _] ++ (esJ bj bd ((4 + q.toNat % 40) / 2) num9 0 (.slice A1 m1 c1) (.slice A2 m2 c2) t1 t2 bn vs2 vp2 (4 + q.toNat % 40) ss2)) hS r4 h0 hb (Ours.front hc)) (by omega) (by omega) (by omega) (if (0 : Int) = 0 then 1 else 0) (fun h => if_pos h) (fun h => if_neg h) (by rw [recB_len] at hf2 ⊢; exact hf2)) ?_
            rintro _ w ⟨rfl, W1, W2, vs3, vp3, ss3, hsav, hS2⟩
            refine ⟨_, rfl, ?_⟩
            replace hS := ST.call (fr := [_, _, _, _, _]) (es := (esJ bj bd ((4 + q.toNat % 40) / 2) num9 0 (.slice A1 m1 c1) (.slice A2 m2 c2) t1 t2 bn vs2 vp2 (4 + q.toNat % 40) ss2)) hS hS2
            simp only [List.cons_append, List.nil_append] at hS
            refine WL.nil ?_
            refine QN.held (hS.bk (k := 3) rfl) ?_
            refine WH.take (listed' := #[true, true, true, true, true, true, true, false, false, false]) 3 rfl (by kernel_rfl) (by kernel_rfl) (by kernel_rfl) (fun _ _ _ h => h) rfl (fun w _ => PV.rv (pv_eql rfl rfl) w) (hS.bk (k := 3) rfl) rfl ?_
            refine WH.one (listed' := #[true, true, true, true, true, true, true, true, false, false]) 7 rfl (by kernel_rfl) rfl ?_
            refine WL.call (args := [.tmp 87, .const (.int .u64 2), .tmp 88]) cf_55 rfl rfl (fits_c ((4 + q.toNat % 40) / 2) 2 _ _ _ _ _ _ s3 s4 _ (r3.no hS.fr) (r4.no hS.fr) (by omega) (by omega) (by omega)) ?_
            rintro _ w ⟨rfl, hF⟩
            refine ⟨_, rfl, ?_⟩
            replace hS := hS.no hF
            refine WL.nil ?_
            refine QN.held (hS.bk (k := 3) rfl) ?_
            refine WH.take (listed' := #[true, true, true, true, true, true, true, true, true, false]) 8 rfl (by kernel_rfl) (by kernel_rfl) (by kernel_rfl) (fun _ _ _ h => h) rfl (fun w _ => PV.rv (pv_eqlB Try.underlying4 rfl rfl) w) (hS.bk (k := 3) rfl) rfl ?_
            refine WH.take (listed' := #[true, true, true, true, true, true, true, true, true, true]) 9 rfl (by kernel_rfl) (by kernel_rfl) (by kernel_rfl) (fun _ _ _ h => h) rfl (fun w _ => PV.rv (pv_assign rfl) w) (hS.bk (k := 3) rfl) rfl ?_
            refine WH.done (by kernel_rfl) ?_
            refine QN.thenW ?_
            refine WC.ret ?_
            refine QN.ret1 rfl rfl ?_
            exact ⟨by rw [decide_eq_true hf2]; rfl, hS.fr⟩
          · skip
            refine WC.draw (S := fun w => Bk w bb 78 [.slice B3 k3 d3, .slice B4 k4 d4]) (fuel := 10) (listed := #[false, false, false, false, false, false, false, false, false, false]) mixedO rfl rfl ?_
            have hS := hS.no (Fr.drew _)
            refine WH.take (listed' := #[true, false, false, false, false, false, false, false, false, false]) 0 rfl (by kernel_rfl) (by kernel_rfl) (by kernel_rfl) (fun _ _ _ h => h) rfl (fun w _ => PV.rv (pv_move rfl) w) (hS.bk (k := 3) rfl) rfl ?_
            refine WH.take (listed' := #[true, true, false, false, false, false, false, false, false, false]) 1 rfl (by kernel_rfl) (by kernel_rfl) (by kernel_rfl) (fun _ _ _ h => h) rfl (fun w hS => rv_loadA (cs := [.slice B3 k3 d3, .slice B4 k4 d4]) (by rw [aggT_78]; rfl) rfl (fun j u hu => by rw [Nat.zero_add, Bk.cell hS]; exact hu)) (hS.bk (k := 3) rfl) rfl ?_
            refine WH.take (listed' := #[true, true, false, false, true, false, false, false, false, false]) 4 rfl (by kernel_rfl) (by kernel_rfl) (by kernel_rfl) (fun _ _ _ h => h) rfl (fun w _ => PV.rv (pv_move rfl) w) (hS.bk (k := 3) rfl) rfl ?_
            refine WH.take (listed' := #[true, true, false, false, true, true, false, false, false, false]) 5 rfl (by kernel_rfl) (by kernel_rfl) (by kernel_rfl) (fun _ _ _ h => h) rfl (fun w _ => PV.rv (pv_quoN (a := (4 + q.toNat % 40)) (b := 2) rfl rfl (by omega) (by omega)) w) (hS.bk (k := 3) rfl) rfl ?_
            refine WH.take (listed' := #[true, true, false, false, true, true, true, false, false, false]) 6 rfl (by kernel_rfl) (by kernel_rfl) (by kernel_rfl) (fun _ _ _ h => h) rfl (fun w hS => rv_loadA (cs := [.slice B3 k3 d3, .slice B4 k4 d4]) (by rw [aggT_78]; rfl) rfl (fun j u hu => by rw [Nat.zero_add, Bk.cell hS]; exact hu)) (hS.bk (k := 3) rfl) rfl ?_
            refine WH.one (listed' := #[true, true, true, false, true, true, true, false, false, false]) 2 rfl (by kernel_rfl) rfl ?_
            refine WL.call (args := [.tmp 82, .tmp 83]) cf_51 rfl rfl (saveFull_c bj bd ((4 + q.toNat % 40) / 2) num9 0 A1 A2 m1 c1 m2 c2 t1 t2 bn vs2 vp2 (4 + q.toNat % 40) ss2 _ (ST.part (fr := [_, _, _, _, _]) (es := (esJ bj bd ((4 + q.toNat % 40) / 2) num9 0 (.slice A1 m1 c1) (.slice A2 m2 c2) t1 t2 bn vs2 vp2 (4 + q.toNat % 40) ss2)) hS) (by omega) hfacts.2.2.2 _ _ _ _ _ _ s3 s4 (r3.no hS.fr) (r4.no hS.fr) (fun h0 b hb hc => ST.notOurs (hp := [_, _, _, _, _] ++ (esJ bj bd ((4 + q.toNat % 40) / 2) num9 0 (.slice A1 m1 c1) (.slice A2 m2 c2) t1 t2 bn vs2 vp2 (4 + q.toNat % 40) ss2)) hS r3 h0 hb (Ours.front hc)) (fun h0 b hb hc => ST.notOurs (hp := [_, _, _, _, _] ++ (esJ bj bd ((4 + q.toNat % 40) / 2) num9 0 (.slice A1 m1 c1) (.slice A2 m2 c2) t1 t2 bn vs2 vp2 (4 + q.toNat % 40) ss2)) hS r4 h0 hb (Ours.front hc)) (by omega) (by omega) (by omega) (by rw [recB_len] at hf2 ⊢; omega)) ?_
            rintro _ w ⟨rfl, hS2⟩
            refine ⟨_, rfl, ?_⟩
            replace hS := ST.call (fr := [_, _, _, _, _]) (es := (esJ bj bd ((4 + q.toNat % 40) / 2) num9 0 (.slice A1 m1 c1) (.slice A2 m2 c2) t1 t2 bn vs2 vp2 (4 + q.toNat % 40) ss2)) hS hS2
            simp only [List.cons_append, List.nil_append] at hS
            refine WL.nil ?_
            refine QN.held (hS.bk (k := 3) rfl) ?_
            refine WH.take (listed' := #[true, true, true, true, true, true, true, false, false, false]) 3 rfl (by kernel_rfl) (by kernel_rfl) (by kernel_rfl) (fun _ _ _ h => h) rfl (fun w _ => PV.rv (pv_eql rfl rfl) w) (hS.bk (k := 3) rfl) rfl ?_
            refine WH.one (listed' := #[true, true, true, true, true, true, true, true, false, false]) 7 rfl (by kernel_rfl) rfl ?_
            refine WL.call (args := [.tmp 87, .const (.int .u64 2), .tmp 88]) cf_55 rfl rfl (fits_c ((4 + q.toNat % 40) / 2) 2 _ _ _ _ _ _ s3 s4 _ (r3.no hS.fr) (r4.no hS.fr) (by omega) (by omega) (by omega)) ?_
            rintro _ w ⟨rfl, hF⟩
            refine ⟨_, rfl, ?_⟩
            replace hS := hS.no hF
            refine WL.nil ?_
            refine QN.held (hS.bk (k := 3) rfl) ?_
            refine WH.take (listed' := #[true, true, true, true, true, true, true, true, true, false]) 8 rfl (by kernel_rfl) (by kernel_rfl) (by kernel_rfl) (fun _ _ _ h => h) rfl (fun w _ => PV.rv (pv_eqlB Try.underlying4 rfl rfl) w) (hS.bk (k := 3) rfl) rfl ?_
            refine WH.take (listed' := #[true, true, true, true, true, true, true, true, true, true]) 9 rfl (by kernel_rfl) (by kernel_rfl) (by kernel_rfl) (fun _ _ _ h => h) rfl (fun w _ => PV.rv (pv_assign rfl) w) (hS.bk (k := 3) rfl) rfl ?_
            refine WH.done (by kernel_rfl) ?_
            refine QN.thenW ?_
            refine WC.ret ?_
            refine QN.ret1 rfl rfl ?_
            exact ⟨by rw [decide_eq_false hf2]; rfl, hS.fr⟩
        · skip
          obtain rfl := hfacts.2.2.1 hf1
          refine WC.region ?_
          refine WL.pv (pv_move rfl) rfl ?_
          refine WL.call (args := [.tmp 66]) cf_52 rfl rfl (stateNo_c bj bd ((4 + q.toNat % 40) / 2) num9 (-1) A1 A2 m1 c1 m2 c2 _ (hS.bk (k := 2) rfl) (by omega)) ?_
          rintro _ w ⟨rfl, hF⟩
          refine ⟨_, rfl, ?_⟩
          replace hS := hS.no hF
          refine WL.pv (pv_move rfl) rfl ?_
          refine WL.pv (pv_extL rfl rfl) rfl ?_
          refine WL.pv (pv_extL rfl rfl) rfl ?_
          refine WL.alloc hS zeroT_78 rfl ?_
          intro b12 w hb12 hS
          refine WL.storeAll (k := 0) (vs := [.slice none 0 0, .slice none 0 0]) hS (by rw [sizeT_78]; simp) rfl rfl rfl (by first | (simp; done) | simp [Value.oneCell']) (by simp) ?_
          intro w hS
          try simp only [List.set] at hS
          refine WL.pv (pv_assign rfl) rfl ?_
          refine WL.nil ?_
          refine QN.thenW ?_
          refine WC.seq ?_
          refine WC.seq ?_
          refine WC.region ?_
          refine WL.pv (pv_move rfl) rfl ?_
          refine WL.pv (pv_move rfl) rfl ?_
          refine WL.pv (pv_neqB Try.underlying4 rfl rfl) rfl ?_
          refine WL.pv (pv_move rfl) rfl ?_
          refine WL.guardT rfl rfl rfl (lkB rfl (by rw [decide_eq_false hf1]; rfl)) ?_
          refine WL.pv (pv_move rfl) rfl ?_
          refine WL.guardT rfl rfl rfl (lkB rfl (by rw [decide_eq_false hf1]; rfl)) ?_
          refine WL.pv (pv_move rfl) rfl ?_
          refine WL.guardF rfl rfl rfl (lkF rfl hf1) rfl rfl ?_
          refine WL.guardF rfl rfl rfl (lkF rfl hf1) rfl rfl ?_
          refine WL.guardF rfl rfl rfl (lkF rfl hf1) rfl rfl ?_
          refine WL.guardF rfl rfl rfl (lkF rfl hf1) rfl rfl ?_
          refine WL.guardT rfl rfl rfl (lkB rfl (by rw [decide_eq_false hf1]; rfl)) ?_
          refine WL.pv (pv_pick0 (lkF rfl hf1) rfl) rfl ?_
          refine WL.pv (pv_pick0 (lkB rfl (by rw [decide_eq_false hf1]; rfl)) rfl) rfl ?_
          refine WL.nil ?_
          refine QN.thenW ?_
          refine WC.condF rfl rfl ?_
          refine WC.skip ?_
          refine QN.thenW ?_
          refine WC.seq ?_
          by_cases hf2 : (recB 2 s3 s4).length ≤ 64 * ((4 + q.toNat % 40) / 2)
          · skip
            refine WC.draw (S := fun w => Bk w bb 78 [.slice B3 k3 d3, .slice B4 k4 d4]) (fuel := 10) (listed := #[false, false, false, false, false, false, false, false, false, false]) mixedO rfl rfl ?_
            have hS := hS.no (Fr.drew _)
            refine WH.take (listed' := #[true, false, false, false, false, false, false, false, false, false]) 0 rfl (by kernel_rfl) (by kernel_rfl) (by kernel_rfl) (fun _ _ _ h => h) rfl (fun w _ => PV.rv (pv_move rfl) w) (hS.bk (k := 1) rfl) rfl ?_
            refine WH.take (listed' := #[true, true, false, false, false, false, false, false, false, false]) 1 rfl (by kernel_rfl) (by kernel_rfl) (by kernel_rfl) (fun _ _ _ h => h) rfl (fun w hS => rv_loadA (cs := [.slice B3 k3 d3, .slice B4 k4 d4]) (by rw [aggT_78]; rfl) rfl (fun j u hu => by rw [Nat.zero_add, Bk.cell hS]; exact hu)) (hS.bk (k := 1) rfl) rfl ?_
            refine WH.take (listed' := #[true, true, false, false, true, false, false, false, false, false]) 4 rfl (by kernel_rfl) (by kernel_rfl) (by kernel_rfl) (fun _ _ _ h => h) rfl (fun w _ => PV.rv (pv_move rfl) w) (hS.bk (k := 1) rfl) rfl ?_
            refine WH.take (listed' := #[true, true, false, false, true, true, false, false, false, false]) 5 rfl (by kernel_rfl) (by kernel_rfl) (by kernel_rfl) (fun _ _ _ h => h) rfl (fun w _ => PV.rv (pv_quoN (a := (4 + q.toNat % 40)) (b := 2) rfl rfl (by omega) (by omega)) w) (hS.bk (k := 1) rfl) rfl ?_
            refine WH.take (listed' := #[true, true, false, false, true, true, true, false, false, false]) 6 rfl (by kernel_rfl) (by kernel_rfl) (by kernel_rfl) (fun _ _ _ h => h) rfl (fun w hS => rv_loadA (cs := [.slice B3 k3 d3, .slice B4 k4 d4]) (by rw [aggT_78]; rfl) rfl (fun j u hu => by rw [Nat.zero_add, Bk.cell hS]; exact hu)) (hS.bk (k := 1) rfl) rfl ?_
            refine WH.one (listed' := #[true, true, true, false, true, true, true, false, false, false]) 2 rfl (by kernel_rfl) rfl ?_
            refine WL.call (args := [.tmp 82, .tmp 83]) cf_51 rfl rfl (save_c bj bd ((4 + q.toNat % 40) / 2) num9 (-1) A1 A2 m1 c1 m2 c2 t1 t2 bn vs2 vp2 (4 + q.toNat % 40) ss2 _ (ST.part (fr := [_, _, _]) (es := (esJ bj bd ((4 + q.toNat % 40) / 2) num9 (-1) (.slice A1 m1 c1) (.slice A2 m2 c2) t1 t2 bn vs2 vp2 (4 + q.toNat % 40) ss2)) hS) (by omega) hfacts.2.2.2 _ _ _ _ _ _ s3 s4 (r3.no hS.fr) (r4.no hS.fr) (fun h0 b hb hc => ST.notOurs (hp := [_, _, _] ++ (esJ bj bd ((4 + q.toNat % 40) / 2) num9 (-1) (.slice A1 m1 c1) (.slice A2 m2 c2) t1 t2 bn vs2 vp2 (4 + q.toNat % 40) ss2)) hS r3 h0 hb (Ours.front hc)) (fun h0 b hb hc => ST.notOurs (hp := [_, _, _] ++ (esJ bj bd ((4 + q.toNat % 40) / 2) num9 (-1) (.slice A1 m1 c1) (.slice A2 m2 c2) t1 t2 bn vs2 vp2 (4 + q.toNat % 40) ss2)) hS r4 h0 hb (Ours.front hc)) (by omega) (by omega) (by omega) (if ((-1) : Int) = 0 then 1 else 0) (fun h => if_pos h) (fun h => if_neg h) (by rw [recB_len] at hf2 ⊢; exact hf2)) ?_
            rintro _ w ⟨rfl, W1, W2, vs3, vp3, ss3, hsav, hS2⟩
            refine ⟨_, rfl, ?_⟩
            replace hS := ST.call (fr := [_, _, _]) (es := (esJ bj bd ((4 + q.toNat % 40) / 2) num9 (-1) (.slice A1 m1 c1) (.slice A2 m2 c2) t1 t2 bn vs2 vp2 (4 + q.toNat % 40) ss2)) hS hS2
            simp only [List.cons_append, List.nil_append] at hS
            refine WL.nil ?_
            refine QN.held (hS.bk (k := 1) rfl) ?_
            refine WH.take (listed' := #[true, true, true, true, true, true, true, false, false, false]) 3 rfl (by kernel_rfl) (by kernel_rfl) (by kernel_rfl) (fun _ _ _ h => h) rfl (fun w _ => PV.rv (pv_eql rfl rfl) w) (hS.bk (k := 1) rfl) rfl ?_
            refine WH.one (listed' := #[true, true, true, true, true, true, true, true, false, false]) 7 rfl (by kernel_rfl) rfl ?_
            refine WL.call (args := [.tmp 87, .const (.int .u64 2), .tmp 88]) cf_55 rfl rfl (fits_c ((4 + q.toNat % 40) / 2) 2 _ _ _ _ _ _ s3 s4 _ (r3.no hS.fr) (r4.no hS.fr) (by omega) (by omega) (by omega)) ?_
            rintro _ w ⟨rfl, hF⟩
            refine ⟨_, rfl, ?_⟩
            replace hS := hS.no hF
            refine WL.nil ?_
            refine QN.held (hS.bk (k := 1) rfl) ?_
            refine WH.take (listed' := #[true, true, true, true, true, true, true, true, true, false]) 8 rfl (by kernel_rfl) (by kernel_rfl) (by kernel_rfl) (fun _ _ _ h => h) rfl (fun w _ => PV.rv (pv_eqlB Try.underlying4 rfl rfl) w) (hS.bk (k := 1) rfl) rfl ?_
            refine WH.take (listed' := #[true, true, true, true, true, true, true, true, true, true]) 9 rfl (by kernel_rfl) (by kernel_rfl) (by kernel_rfl) (fun _ _ _ h => h) rfl (fun w _ => PV.rv (pv_assign rfl) w) (hS.bk (k := 1) rfl) rfl ?_
            refine WH.done (by kernel_rfl) ?_
            refine QN.thenW ?_
            refine WC.ret ?_
            refine QN.ret1 rfl rfl ?_
            exact ⟨by rw [decide_eq_true hf2]; rfl, hS.fr⟩
          · skip
            refine WC.draw (S := fun w => Bk w bb 78 [.slice B3 k3 d3, .slice B4 k4 d4]) (fuel := 10) (listed := #[false, false, false, false, false, false, false, false, false, false]) mixedO rfl rfl ?_
            have hS := hS.no (Fr.drew _)
            refine WH.take (listed' := #[true, false, false, false, false, false, false, false, false, false]) 0 rfl (by kernel_rfl) (by kernel_rfl) (by kernel_rfl) (fun _ _ _ h => h) rfl (fun w _ => PV.rv (pv_move rfl) w) (hS.bk (k := 1) rfl) rfl ?_
            refine WH.take (listed' := #[true, true, false, false, false, false, false, false, false, false]) 1 rfl (by kernel_rfl) (by kernel_rfl) (by kernel_rfl) (fun _ _ _ h => h) rfl (fun w hS => rv_loadA (cs := [.slice B3 k3 d3, .slice B4 k4 d4]) (by rw [aggT_78]; rfl) rfl (fun j u hu => by rw [Nat.zero_add, Bk.cell hS]; exact hu)) (hS.bk (k := 1) rfl) rfl ?_
            refine WH.take (listed' := #[true, true, false, false, true, false, false, false, false, false]) 4 rfl (by kernel_rfl) (by kernel_rfl) (by kernel_rfl) (fun _ _ _ h => h) rfl (fun w _ => PV.rv (pv_move rfl) w) (hS.bk (k := 1) rfl) rfl ?_
            refine WH.take (listed' := #[true, true, false, false, true, true, false, false, false, false]) 5 rfl (by kernel_rfl) (by kernel_rfl) (by kernel_rfl) (fun _ _ _ h => h) rfl (fun w _ => PV.rv (pv_quoN (a := (4 + q.toNat % 40)) (b := 2) rfl rfl (by omega) (by omega)) w) (hS.bk (k := 1) rfl) rfl ?_
            refine WH.take (listed' := #[true, true, false, false, true, true, true, false, false, false]) 6 rfl (by kernel_rfl) (by kernel_rfl) (by kernel_rfl) (fun _ _ _ h => h) rfl (fun w hS => rv_loadA (cs := [.slice B3 k3 d3, .slice B4 k4 d4]) (by rw [aggT_78]; rfl) rfl (fun j u hu => by rw [Nat.zero_add, Bk.cell hS]; exact hu)) (hS.bk (k := 1) rfl) rfl ?_
            refine WH.one (listed' := #[true, true, true, false, true, true, true, false, false, false]) 2 rfl (by kernel_rfl) rfl ?_
            refine WL.call (args := [.tmp 82, .tmp 83]) cf_51 rfl rfl (saveFull_c bj bd ((4 + q.toNat % 40) / 2) num9 (-1) A1 A2 m1 c1 m2 c2 t1 t2 bn vs2 vp2 (4 + q.toNat % 40) ss2 _ (ST.part (fr := [_, _, _]) (es := (esJ bj bd ((4 + q.toNat % 40) / 2) num9 (-1) (.slice A1 m1 c1) (.slice A2 m2 c2) t1 t2 bn vs2 vp2 (4 + q.toNat % 40) ss2)) hS) (by omega) hfacts.2.2.2 _ _ _ _ _ _ s3 s4 (r3.no hS.fr) (r4.no hS.fr) (fun h0 b hb hc => ST.notOurs (hp := [_, _, _] ++ (esJ bj bd ((4 + q.toNat % 40) / 2) num9 (-1) (.slice A1 m1 c1) (.slice A2 m2 c2) t1 t2 bn vs2 vp2 (4 + q.toNat % 40) ss2)) hS r3 h0 hb (Ours.front hc)) (fun h0 b hb hc => ST.notOurs (hp := [_, _, _] ++ (esJ bj bd ((4 + q.toNat % 40) / 2) num9 (-1) (.slice A1 m1 c1) (.slice A2 m2 c2) t1 t2 bn vs2 vp2 (4 + q.toNat % 40) ss2)) hS r4 h0 hb (Ours.front hc)) (by omega) (by omega) (by omega) (by rw [recB_len] at hf2 ⊢; omega)) ?_
            rintro _ w ⟨rfl, hS2⟩
            refine ⟨_, rfl, ?_⟩
            replace hS := ST.call (fr := [_, _, _]) (es := (esJ bj bd ((4 + q.toNat % 40) / 2) num9 (-1) (.slice A1 m1 c1) (.slice A2 m2 c2) t1 t2 bn vs2 vp2 (4 + q.toNat % 40) ss2)) hS hS2
            simp only [List.cons_append, List.nil_append] at hS
            refine WL.nil ?_
            refine QN.held (hS.bk (k := 1) rfl) ?_
            refine WH.take (listed' := #[true, true, true, true, true, true, true, false, false, false]) 3 rfl (by kernel_rfl) (by kernel_rfl) (by kernel_rfl) (fun _ _ _ h => h) rfl (fun w _ => PV.rv (pv_eql rfl rfl) w) (hS.bk (k := 1) rfl) rfl ?_
            refine WH.one (listed' := #[true, true, true, true, true, true, true, true, false, false]) 7 rfl (by kernel_rfl) rfl ?_
            refine WL.call (args := [.tmp 87, .const (.int .u64 2), .tmp 88]) cf_55 rfl rfl (fits_c ((4 + q.toNat % 40) / 2) 2 _ _ _ _ _ _ s3 s4 _ (r3.no hS.fr) (r4.no hS.fr) (by omega) (by omega) (by omega)) ?_
            rintro _ w ⟨rfl, hF⟩
            refine ⟨_, rfl, ?_⟩
            replace hS := hS.no hF
            refine WL.nil ?_
            refine QN.held (hS.bk (k := 1) rfl) ?_
            refine WH.take (listed' := #[true, true, true, true, true, true, true, true, true, false]) 8 rfl (by kernel_rfl) (by kernel_rfl) (by kernel_rfl) (fun _ _ _ h => h) rfl (fun w _ => PV.rv (pv_eqlB Try.underlying4 rfl rfl) w) (hS.bk (k := 1) rfl) rfl ?_
            refine WH.take (listed' := #[true, true, true, true, true, true, true, true, true, true]) 9 rfl (by kernel_rfl) (by kernel_rfl) (by kernel_rfl) (fun _ _ _ h => h) rfl (fun w _ => PV.rv (pv_assign rfl) w) (hS.bk (k := 1) rfl) rfl ?_
            refine WH.done (by kernel_rfl) ?_
            refine QN.thenW ?_
            refine WC.ret ?_
            refine QN.ret1 rfl rfl ?_
            exact ⟨by rw [decide_eq_false hf2]; rfl, hS.fr⟩

end Go.Proofs.Ytjcebkhhgdgohaa
namespace Go.Proofs.Ytjcebkhhgdgohaa
open Go Go.RowKit Go.Eng
theorem slS_71 : (slT Try.prog 71).isSome = true := by kernel_rfl
theorem slT_71 : slT Try.prog 71 = some (78, 2, 48) := by kernel_rfl

theorem _root_.Go.Eng.ST.pick {w0 w : World} {M : Nat → Prop} {hp es : List Ent} (h : ST w0 M w hp) (is : List Nat) (hn : is.Nodup) (he : is.filterMap (fun i => hp[i]?) = es) : ST w0 M w es := by
  subst he
  refine ⟨h.fr, fun e he => ?_, fun e he b hb => ?_, List.pairwise_filterMap.2 (hn.imp ?_)⟩
  · obtain ⟨i, _, hi⟩ := List.mem_filterMap.1 he; exact h.at_ hi
  · obtain ⟨i, _, hi⟩ := List.mem_filterMap.1 he; exact h.own' hi hb
  · intro i j hij e he f hf b hb; exact h.apart he hf hij hb
/-- How a journal and its disk stand behind so many saves. -/
structure JInv (n half : Nat) (num : UInt64) (ss : List (List UInt8)) (k : Nat) : Prop where
  ds : Dsk n ss
  nk : num.toNat = k
  ar : ∃ AR : Nat → UInt64 × List UInt8 × List UInt8, ∀ a, a < 2 → AI ss half a (AR a) ∧ (AR a).1.toNat ≤ k
theorem JInv.save {n half k ar : Nat} {num : UInt64} {ss ss2 : List (List UInt8)} {s1 s2 : List UInt8} (h : JInv n half num ss k) (hs : Sav ss ss2 half ar (num + 1) s1 s2) (ha : ar = 0 ∨ ar = 1) (hh : 2 * half ≤ n) (hk : k ≤ 100) (h1 : s1.length ≤ 4000) (h2 : s2.length ≤ 4000) :
    JInv n half (num + 1) ss2 (k + 1) ∧ ∃ AR : Nat → UInt64 × List UInt8 × List UInt8, (∀ a, a < 2 → AI ss2 half a (AR a)) ∧ opn AR 2 = (num + 1, (ar : Int), s1, s2) := by
  obtain ⟨AR, hA⟩ := h.ar
  have hnk := h.nk
  have hn1 : (num + 1).toNat = k + 1 := by rw [UInt64.toNat_add, show (1 : UInt64).toNat = 1 from rfl, hnk]; omega
  have hnew : AI ss2 half ar (num + 1, s1, s2) := hs.new h.ds (by rcases ha with rfl | rfl <;> omega) h1 h2
  have hAR : ∀ a, a < 2 → AI ss2 half a (if a = ar then (num + 1, s1, s2) else AR a) ∧ (if a = ar then (num + 1, s1, s2) else AR a).1.toNat ≤ k + 1 := by
    intro a ha2
    by_cases hx : a = ar
    · subst hx; rw [if_pos rfl]; exact ⟨hnew, Nat.le_of_eq hn1⟩
    · rw [if_neg hx]
      exact ⟨hs.old (by omega) (hA a ha2).1, by have := (hA a ha2).2; omega⟩
  refine ⟨⟨hs.dsk h.ds, hn1, _, hAR⟩, fun a => if a = ar then (num + 1, s1, s2) else AR a, fun a h => (hAR a h).1, ?_⟩
  have h0 := (hA 0 (by omega)).2
  have h1' := (hA 1 (by omega)).2
  rcases ha with rfl | rfl
  · have e1 : opn (fun a => if a = 0 then (num + 1, s1, s2) else AR a) 1 = (num + 1, ((0 : Nat) : Int), s1, s2) := opn_y (by show (0 : UInt64).toNat < (num + 1).toNat; rw [hn1]; exact Nat.succ_pos _)
    rw [opn_n (by rw [e1]; show ¬ (num + 1).toNat < (AR 1).1.toNat; omega), e1]
  · refine opn_y ?_
    show _ < (num + 1).toNat
    by_cases h9 : (0 : UInt64).toNat < (AR 0).1.toNat
    · rw [opn_y (AR := fun a => if a = 1 then (num + 1, s1, s2) else AR a) (k := 0) h9]; show (AR 0).1.toNat < _; omega
    · rw [opn_n (AR := fun a => if a = 1 then (num + 1, s1, s2) else AR a) (k := 0) h9]; show (0 : UInt64).toNat < _; rw [hn1]; exact Nat.succ_pos _
def StsR (w : World) (v : Value) (N : Nat) : Prop := ∃ css : List (List Value), Rs w v 2 css.flatten ∧ css.length = N ∧ (∀ c ∈ css, c.length = 2) ∧
  ∀ c ∈ css, ∃ (A1 A2 : Option Addr) (m1 c1 m2 c2 : Nat) (s1 s2 : List UInt8), c = [.slice A1 m1 c1, .slice A2 m2 c2] ∧ Rs w (.slice A1 m1 c1) 1 (bs8 s1) ∧ Rs w (.slice A2 m2 c2) 1 (bs8 s2)
theorem sts_of_trod {H : Type} {enc : TypeId × Value → H} {w : World} {base fuel m c : Nat} {A : Option Addr} {x : DataW H × List MemPlace} (h : DataW.trod enc Try.prog w base (fun _ => true) true fuel 71 [.slice A m c] = some x) : StsR w (.slice A m c) m := by
  have c78 : Try.prog.cellsOf 78 = 2 := by kernel_rfl
  obtain ⟨css, hR, ⟨A', c', he⟩, hall⟩ := elems_of_trod Try.underlying71 (by rw [c78]; omega) h
  rw [c78] at hR hall
  injection he with _ he _
  refine ⟨css, hR, he.symm, fun c hc => (hall c hc).1, fun c hc => ?_⟩
  obtain ⟨_, f, y, hy⟩ := hall c hc
  exact st_of_trod hy

set_option maxHeartbeats 1000000 in
set_option maxRecDepth 100000 in
theorem journalBack_c (A : Option Addr) (m c : Nat) (w0 : World) (hl : StsR w0 (.slice A m c) m) : Calls Try.prog 16 #[.slice A m c] w0 fun e w => e = .returned (.bool true) ∧ Fr No w0 w := by
  obtain ⟨css, hcs, hcl, hc2, hst⟩ := hl
  refine calls_of_WC (args := [.slice A m c]) Try.func16 rfl Try.ntmps16 rfl ?_
  show WC _ _ _ _ [(0, .slice A m c)] _
  have hS := ST.start w0 No
  refine WC.seq ?_
  refine WC.region ?_
  refine WL.pv (pv_assign rfl) rfl ?_
  refine WL.nil ?_
  refine QN.thenW ?_
  refine WC.seq ?_
  refine WC.seq ?_
  refine WC.region ?_
  refine WL.call (args := []) cf_48 rfl rfl (wakesJ_c _) ?_
  rintro _ w ⟨rfl, hF⟩
  refine ⟨_, rfl, ?_⟩
  replace hS := hS.no hF
  refine WL.pv (pv_not rfl) rfl ?_
  refine WL.nil ?_
  refine QN.thenW ?_
  refine WC.condF rfl rfl ?_
  refine WC.skip ?_
  refine QN.thenW ?_
  refine WC.seq ?_
  refine WC.seq ?_
  refine WC.region ?_
  refine WL.pv (pv_move rfl) rfl ?_
  refine WL.pv (pv_len slS_71 rfl) rfl ?_
  refine WL.pv (pv_gtr rfl rfl) rfl ?_
  refine WL.nil ?_
  refine QN.thenW ?_
  refine WC.condD rfl (fun hc16 => ?_) (fun hc16 => ?_)
  · skip
    refine WC.seq ?_
    refine WC.region ?_
    refine WL.pv (pv_assign rfl) rfl ?_
    refine WL.nil ?_
    refine QN.thenW ?_
    refine WC.ret ?_
    refine QN.thenR ?_
    refine QN.ret1 rfl rfl ?_
    exact ⟨rfl, hS.fr⟩
  · skip
    have hm20 : m ≤ 20 := by omega
    refine WC.skip ?_
    refine QN.thenW ?_
    refine WC.seq ?_
    refine WC.region ?_
    refine WL.call (args := [.const (.int .i64 256)]) cf_49 rfl rfl (newK_c 256 _) ?_
    rintro _ w ⟨bd, bn, vs, rfl, hS2⟩
    refine ⟨_, rfl, ?_⟩
    replace hS := hS.join hS2
    rw [show nDisk 256 = 256 from rfl] at hS
    simp only [esK, List.append_nil] at hS
    refine WL.pv (pv_assign rfl) rfl ?_
    refine WL.nil ?_
    refine QN.thenW ?_
    refine WC.seq ?_
    refine WC.region ?_
    refine WL.pv (pv_move rfl) rfl ?_
    refine WL.call (args := [.tmp 19]) cf_50 rfl rfl (open_c bd bn 256 vs (.slice none 0 0) _ (hS.bk (k := 0) rfl) (List.replicate 256 zSec) (hS.bk (k := 1) rfl) (Dsk.zero 256) (by omega) AR0 (AI_new (n := 256) (by decide))) ?_
    rintro _ w ⟨bj, A1, A2, m1, c1, m2, c2, rfl, hS2⟩
    refine ⟨_, rfl, ?_⟩
    replace hS := hS.join hS2
    simp only [opn_zero, List.cons_append, List.nil_append] at hS
    refine WL.pv (pv_move rfl) rfl ?_
    refine WL.pv (pv_extL rfl rfl) rfl ?_
    refine WL.pv (pv_extL rfl rfl) rfl ?_
    refine WL.pv (pv_assign rfl) rfl ?_
    refine WL.pv (pv_assign rfl) rfl ?_
    refine WL.nil ?_
    refine QN.thenW ?_
    refine WC.seq ?_
    refine WC.seq ?_
    refine WC.region ?_
    refine WL.pv (pv_move rfl) rfl ?_
    refine WL.pv (pv_len slS_71 rfl) rfl ?_
    refine WL.pv (pv_move rfl) rfl ?_
    refine WL.nil ?_
    refine QN.thenW ?_
    refine WC.block ?_
    refine WC.loop (α := Nat) (fun k => [(3, .pointer (some ⟨bd, 0, none⟩)), (4, .pointer (some ⟨bj, 0, none⟩)), (23, .slice A m c), (24, .int .i64 (m : Int)), (25, .int .i64 (k : Int))]) (fun k w => k ≤ m ∧ ∃ (num : UInt64) (hold : Int) (W1 W2 : Value) (t1 t2 : List UInt8) (vs vp : Value) (ss : List (List UInt8)), JInv 256 128 num ss k ∧ ST w0 No w (esJ bj bd 128 num hold W1 W2 t1 t2 bn vs vp 256 ss)) (fun k => m - k) (0) (Sub.cons rfl (Sub.cons rfl (Sub.cons rfl (Sub.cons rfl (Sub.cons rfl Sub.nil))))) ⟨by omega, 0, -1, _, _, [], [], vs, .slice none 0 0, List.replicate 256 zSec, ⟨Dsk.zero 256, rfl, AR0, fun a ha => ⟨AI_new (n := 256) (by decide) a ha, Nat.le_refl _⟩⟩, hS⟩ ?_
    rintro k w N hN hR
    obtain ⟨hk, num, hold, W1, W2, t1, t2, vs, vp, ss, hinv, hS⟩ := hR
    simp only [esJ, esK] at hS
    obtain ⟨A1, m1, c1, rfl, _, _, _⟩ := (hS.rw_ (k := 1) rfl).anyForm
    obtain ⟨A2, m2, c2, rfl, _, _, _⟩ := (hS.rw_ (k := 2) rfl).anyForm
    refine WC.seq ?_
    refine WC.region ?_
    refine WL.pv (pv_lss rfl rfl) rfl ?_
    refine WL.nil ?_
    refine QN.thenW ?_
    refine WC.seq ?_
    refine WC.condD rfl (fun hc26 => ?_) (fun hc26 => ?_)
    · skip
      have hkm : k < m := by omega
      obtain ⟨ba, oa, rfl, _, _, _, hca⟩ := hcs.at_ (by rw [flat_len _ hc2]; omega)
      obtain ⟨B1, B2, k1, d1, k2, d2, s1, s2, hce, x1, x2⟩ := hst (css[k]'(by omega)) (List.getElem_mem _)
      have hx1 := x1.len
      have hx2 := x2.len
      rw [bs8_len] at hx1 hx2
      have hnk := hinv.nk
      have hcell : ∀ j u, ([.slice B1 k1 d1, .slice B2 k2 d2] : List Value)[j]? = some u → w0.cell? ⟨ba, oa + k * 2 + j, none⟩ = some u := fun j u hu => by
        have hj := getElem?_lt hu
        simp only [List.length_cons, List.length_nil] at hj
        rw [Nat.add_assoc]
        exact hca _ _ (by rw [flat_at2 hc2 (by omega) (by omega), hce]; exact hu)
      refine WC.skip ?_
      refine QN.thenW ?_
      refine WC.seq ?_
      refine WC.block ?_
      refine WC.seq ?_
      refine WC.region ?_
      refine WL.pv (pv_indexAddrS (j := k) slT_71 rfl rfl (by omega) (by omega)) rfl ?_
      refine WL.rv (rv_loadA (by rw [aggT_78]; rfl) rfl (fun j u hu => hS.fr.cellS (hcell j u hu) (fun h => h))) rfl ?_
      refine WL.alloc hS zeroT_78 rfl ?_
      intro b7 w hb7 hS
      refine WL.storeAll (k := 0) (vs := [.slice B1 k1 d1, .slice B2 k2 d2]) hS (by rw [sizeT_78]; simp) rfl rfl rfl (by first | (simp; done) | simp [Value.oneCell']) (by simp) ?_
      intro w hS
      try simp only [List.set] at hS
      refine WL.nil ?_
      refine QN.thenW ?_
      refine WC.seq ?_
      refine WC.seq ?_
      by_cases h1 : 2000 < k1
      · skip
        refine WC.region ?_
        refine WL.pv (pv_fieldAddrZ fldT_78_0 rfl) rfl ?_
        refine WL.rv (rv_load_blk (k := 0) hS oneT_22 rfl rfl rfl) rfl ?_
        refine WL.pv (pv_len slS_22 rfl) rfl ?_
        refine WL.pv (pv_gtr rfl rfl) rfl ?_
        refine WL.pv (pv_move rfl) rfl ?_
        refine WL.guardF rfl rfl rfl (lkT rfl (by omega)) rfl rfl ?_
        refine WL.guardF rfl rfl rfl (lkT rfl (by omega)) rfl rfl ?_
        refine WL.guardF rfl rfl rfl (lkT rfl (by omega)) rfl rfl ?_
        refine WL.guardF rfl rfl rfl (lkT rfl (by omega)) rfl rfl ?_
        refine WL.pv (pv_pick1 (lkT rfl (by omega)) rfl) rfl ?_
        refine WL.nil ?_
        refine QN.thenW ?_
        refine WC.condT rfl rfl ?_
        refine WC.seq ?_
        refine WC.region ?_
        refine WL.pv (pv_assign rfl) rfl ?_
        refine WL.nil ?_
        refine QN.thenW ?_
        refine WC.ret ?_
        refine QN.thenR ?_
        refine QN.blockR ?_
        refine QN.thenR ?_
        refine QN.thenR ?_
        refine QN.blockR ?_
        refine QN.thenR ?_
        refine QN.ret1 rfl rfl ?_
        exact ⟨rfl, hS.fr⟩
      · skip
        refine WC.region ?_
        refine WL.pv (pv_fieldAddrZ fldT_78_0 rfl) rfl ?_
        refine WL.rv (rv_load_blk (k := 0) hS oneT_22 rfl rfl rfl) rfl ?_
        refine WL.pv (pv_len slS_22 rfl) rfl ?_
        refine WL.pv (pv_gtr rfl rfl) rfl ?_
        refine WL.pv (pv_move rfl) rfl ?_
        refine WL.guardT rfl rfl rfl (lkF rfl (by omega)) ?_
        refine WL.pv (pv_fieldAddrZ fldT_78_1 rfl) rfl ?_
        refine WL.guardT rfl rfl rfl (lkF rfl (by omega)) ?_
        refine WL.rv (rv_load_blk (k := 0) hS oneT_22 rfl rfl rfl) rfl ?_
        refine WL.guardT rfl rfl rfl (lkF rfl (by omega)) ?_
        refine WL.pv (pv_len slS_22 rfl) rfl ?_
        refine WL.guardT rfl rfl rfl (lkF rfl (by omega)) ?_
        refine WL.pv (pv_gtr rfl rfl) rfl ?_
        refine WL.pv (pv_pick0 (lkF rfl (by omega)) rfl) rfl ?_
        refine WL.nil ?_
        refine QN.thenW ?_
        refine WC.condD rfl (fun hc38 => ?_) (fun hc38 => ?_)
        · skip
          refine WC.seq ?_
          refine WC.region ?_
          refine WL.pv (pv_assign rfl) rfl ?_
          refine WL.nil ?_
          refine QN.thenW ?_
          refine WC.ret ?_
          refine QN.thenR ?_
          refine QN.blockR ?_
          refine QN.thenR ?_
          refine QN.thenR ?_
          refine QN.blockR ?_
          refine QN.thenR ?_
          refine QN.ret1 rfl rfl ?_
          exact ⟨rfl, hS.fr⟩
        · skip
          have h2 : ¬ 2000 < k2 := by omega
          have ht1 := textB_le s1
          have ht2 := textB_le s2
          refine WC.skip ?_
          refine QN.thenW ?_
          refine WC.cut (α := Unit) (fun u => [(3, .pointer (some ⟨bd, 0, none⟩)), (4, .pointer (some ⟨bj, 0, none⟩)), (7, .pointer (some ⟨b7, 0, none⟩)), (23, .slice (some ⟨ba, oa, none⟩) m c), (24, .int .i64 (m : Int)), (25, .int .i64 (k : Int))]) (fun u w => ∃ (num2 : UInt64) (hold2 : Int) (W1 W2 vs2 vp2 : Value) (ss2 : List (List UInt8)) (ar : Nat) (AR : Nat → UInt64 × List UInt8 × List UInt8), JInv 256 128 num2 ss2 (k + 1) ∧ (∀ a, a < 2 → AI ss2 128 a (AR a)) ∧ opn AR 2 = (num2, (ar : Int), s1, s2) ∧ ST w0 No w (.blk b7 78 [.slice B1 k1 d1, .slice B2 k2 d2] :: (esJ bj bd 128 num2 hold2 W1 W2 s1 s2 bn vs2 vp2 256 ss2))) ?_ ?_
          · skip
            refine WC.seq ?_
            refine WC.draw (S := fun w => Bk w b7 78 [.slice B1 k1 d1, .slice B2 k2 d2]) (fuel := 12) (listed := #[false, false, false, false, false, false, false, false, false, false, false, false]) mixedO rfl rfl ?_
            have hS := hS.no (Fr.drew _)
            refine WH.take (listed' := #[true, false, false, false, false, false, false, false, false, false, false, false]) 0 rfl (by kernel_rfl) (by kernel_rfl) (by kernel_rfl) (fun _ _ _ h => h) rfl (fun w _ => PV.rv (pv_move rfl) w) (hS.bk (k := 0) rfl) rfl ?_
            refine WH.take (listed' := #[true, false, true, false, false, false, false, false, false, false, false, false]) 2 rfl (by kernel_rfl) (by kernel_rfl) (by kernel_rfl) (fun _ _ _ h => h) rfl (fun w _ => PV.rv (pv_fieldAddrZ fldT_78_0 rfl) w) (hS.bk (k := 0) rfl) rfl ?_
            refine WH.take (listed' := #[true, false, true, true, false, false, false, false, false, false, false, false]) 3 rfl (by kernel_rfl) (by kernel_rfl) (by kernel_rfl) (fun _ _ _ h => h) rfl (fun w hS => rv_load oneT_22 rfl (by rw [Bk.cell hS]; rfl)) (hS.bk (k := 0) rfl) rfl ?_
            refine WH.take (listed' := #[true, false, true, true, false, false, true, false, false, false, false, false]) 6 rfl (by kernel_rfl) (by kernel_rfl) (by kernel_rfl) (fun _ _ _ h => h) rfl (fun w _ => PV.rv (pv_fieldAddrZ fldT_78_1 rfl) w) (hS.bk (k := 0) rfl) rfl ?_
            refine WH.take (listed' := #[true, false, true, true, false, false, true, true, false, false, false, false]) 7 rfl (by kernel_rfl) (by kernel_rfl) (by kernel_rfl) (fun _ _ _ h => h) rfl (fun w hS => rv_load oneT_22 rfl (by rw [Bk.cell hS]; rfl)) (hS.bk (k := 0) rfl) rfl ?_
            refine WH.two (m1 := #[true, true, true, true, false, false, true, true, false, false, false, false]) (m2 := #[true, false, true, true, false, true, true, true, false, false, false, false]) 1 5 rfl rfl (by kernel_rfl) rfl rfl ?_ ?_
            · skip
              refine WL.build0 hS slT_22 rfl ?_
              intro e40 w he40 hS
              refine WL.nil ?_
              refine QN.held (hS.bk (k := 1) rfl) ?_
              refine WH.two (m1 := #[true, true, true, true, true, false, true, true, false, false, false, false]) (m2 := #[true, true, true, true, false, true, true, true, false, false, false, false]) 4 5 rfl rfl (by kernel_rfl) rfl rfl ?_ ?_
              · skip
                refine WL.append (k := 0) (N := 65536) hS slT_22 zlenT_5 (by decide) rfl rfl rfl (x1.no hS.fr) bs8_one (by simp [bs8_len]; omega) (by omega) (by simp [maxLen]) rfl ?_
                intro v43 w hFr43 hS
                try simp only [List.set] at hS
                rw [List.nil_append] at hS
                obtain ⟨A43, m43, c43, rfl, _, _, _⟩ := (hS.rw_ (k := 0) rfl).anyForm
                refine WL.nil ?_
                refine QN.held (hS.bk (k := 1) rfl) ?_
                refine WH.one (listed' := #[true, true, true, true, true, true, true, true, false, false, false, false]) 5 rfl (by kernel_rfl) rfl ?_
                refine WL.build0 hS slT_22 rfl ?_
                intro e44 w he44 hS
                refine WL.nil ?_
                refine QN.held (hS.bk (k := 2) rfl) ?_
                refine WH.one (listed' := #[true, true, true, true, true, true, true, true, true, false, false, false]) 8 rfl (by kernel_rfl) rfl ?_
                refine WL.append (k := 0) (N := 65536) hS slT_22 zlenT_5 (by decide) rfl rfl rfl (x2.no hS.fr) bs8_one (by simp [bs8_len]; omega) (by omega) (by simp [maxLen]) rfl ?_
                intro v47 w hFr47 hS
                try simp only [List.set] at hS
                rw [List.nil_append] at hS
                obtain ⟨A47, m47, c47, rfl, _, _, _⟩ := (hS.rw_ (k := 0) rfl).anyForm
                refine WL.nil ?_
                refine QN.held (hS.bk (k := 2) rfl) ?_
                refine WH.take (listed' := #[true, true, true, true, true, true, true, true, true, true, false, false]) 9 rfl (by kernel_rfl) (by kernel_rfl) (by kernel_rfl) (fun _ _ _ h => h) rfl (fun w _ => PV.rv (pv_buildS (parts := [(0, .tmp 43), (1, .tmp 47)]) (cells := [.slice A43 m43 c43, .slice A47 m47 c47]) layT_78 zeroT_78 rfl rfl) w) (hS.bk (k := 2) rfl) rfl ?_
                refine WH.one (listed' := #[true, true, true, true, true, true, true, true, true, true, true, false]) 10 rfl (by kernel_rfl) rfl ?_
                replace hS := hS.pick [1, 0, 2, 3, 4, 5, 6, 7, 8] (by decide) rfl
                refine WL.call (args := [.tmp 39, .tmp 48]) cf_51 rfl rfl (save_c bj bd 128 num hold A1 A2 m1 c1 m2 c2 t1 t2 bn vs vp 256 ss _ (ST.part (fr := [_, _, _]) (es := (esJ bj bd 128 num hold (.slice A1 m1 c1) (.slice A2 m2 c2) t1 t2 bn vs vp 256 ss)) hS) (by omega) hinv.ds _ _ _ _ _ _ s1 s2 (hS.rw_ (k := 0) rfl).rs (hS.rw_ (k := 1) rfl).rs (fun _ b hb => ST.notPart (fr := [_, _, _]) (es := (esJ bj bd 128 num hold (.slice A1 m1 c1) (.slice A2 m2 c2) t1 t2 bn vs vp 256 ss)) hS (k := 0) rfl hb) (fun _ b hb => ST.notPart (fr := [_, _, _]) (es := (esJ bj bd 128 num hold (.slice A1 m1 c1) (.slice A2 m2 c2) t1 t2 bn vs vp 256 ss)) hS (k := 1) rfl hb) (by omega) (by omega) (by omega) (if hold = 0 then 1 else 0) (fun h => if_pos h) (fun h => if_neg h) (by rw [recB_len]; omega)) ?_
                rintro _ w ⟨rfl, W1, W2, vs2, vp2, ss2, hsav, hS2⟩
                refine ⟨_, rfl, ?_⟩
                replace hS := ST.call (fr := [_, _, _]) (es := (esJ bj bd 128 num hold (.slice A1 m1 c1) (.slice A2 m2 c2) t1 t2 bn vs vp 256 ss)) hS hS2
                simp only [List.cons_append, List.nil_append] at hS
                replace hS := hS.drop.drop
                obtain ⟨hinv2, AR, hAR, hopn⟩ := hinv.save hsav (by split <;> simp) (by omega) (by omega) (by omega) (by omega)
                have hend : ∃ (num2 : UInt64) (hold2 : Int) (W1 W2 vs2 vp2 : Value) (ss2 : List (List UInt8)) (ar : Nat) (AR : Nat → UInt64 × List UInt8 × List UInt8), JInv 256 128 num2 ss2 (k + 1) ∧ (∀ a, a < 2 → AI ss2 128 a (AR a)) ∧ opn AR 2 = (num2, (ar : Int), s1, s2) ∧ ST w0 No _ (.blk b7 78 [.slice B1 k1 d1, .slice B2 k2 d2] :: (esJ bj bd 128 num2 hold2 W1 W2 s1 s2 bn vs2 vp2 256 ss2)) := ⟨_, _, _, _, _, _, _, _, AR, hinv2, hAR, hopn, hS⟩
                refine WL.nil ?_
                refine QN.held (hS.bk (k := 0) rfl) ?_
                refine WH.take (listed' := #[true, true, true, true, true, true, true, true, true, true, true, true]) 11 rfl (by kernel_rfl) (by kernel_rfl) (by kernel_rfl) (fun _ _ _ h => h) rfl (fun w _ => PV.rv (pv_neq rfl rfl) w) (hS.bk (k := 0) rfl) rfl ?_
                refine WH.done (by kernel_rfl) ?_
                refine QN.thenW ?_
                refine WC.condDF rfl (by simp) ?_
                refine WC.skip ?_
                refine QN.midE ?_
                exact ⟨(()), (Sub.cons rfl (Sub.cons rfl (Sub.cons rfl (Sub.cons rfl (Sub.cons rfl (Sub.cons rfl Sub.nil)))))), hend⟩
              · skip
                refine WL.build0 hS slT_22 rfl ?_
                intro e44 w he44 hS
                refine WL.nil ?_
                refine QN.held (hS.bk (k := 2) rfl) ?_
                refine WH.one (listed' := #[true, true, true, true, true, true, true, true, false, false, false, false]) 4 rfl (by kernel_rfl) rfl ?_
                refine WL.append (k := 1) (N := 65536) hS slT_22 zlenT_5 (by decide) rfl rfl rfl (x1.no hS.fr) bs8_one (by simp [bs8_len]; omega) (by omega) (by simp [maxLen]) rfl ?_
                intro v43 w hFr43 hS
                try simp only [List.set] at hS
                rw [List.nil_append] at hS
                obtain ⟨A43, m43, c43, rfl, _, _, _⟩ := (hS.rw_ (k := 1) rfl).anyForm
                refine WL.nil ?_
                refine QN.held (hS.bk (k := 2) rfl) ?_
                refine WH.one (listed' := #[true, true, true, true, true, true, true, true, true, false, false, false]) 8 rfl (by kernel_rfl) rfl ?_
                refine WL.append (k := 0) (N := 65536) hS slT_22 zlenT_5 (by decide) rfl rfl rfl (x2.no hS.fr) bs8_one (by simp [bs8_len]; omega) (by omega) (by simp [maxLen]) rfl ?_
                intro v47 w hFr47 hS
                try simp only [List.set] at hS
                rw [List.nil_append] at hS
                obtain ⟨A47, m47, c47, rfl, _, _, _⟩ := (hS.rw_ (k := 0) rfl).anyForm
                refine WL.nil ?_
                refine QN.held (hS.bk (k := 2) rfl) ?_
                refine WH.take (listed' := #[true, true, true, true, true, true, true, true, true, true, false, false]) 9 rfl (by kernel_rfl) (by kernel_rfl) (by kernel_rfl) (fun _ _ _ h => h) rfl (fun w _ => PV.rv (pv_buildS (parts := [(0, .tmp 43), (1, .tmp 47)]) (cells := [.slice A43 m43 c43, .slice A47 m47 c47]) layT_78 zeroT_78 rfl rfl) w) (hS.bk (k := 2) rfl) rfl ?_
                refine WH.one (listed' := #[true, true, true, true, true, true, true, true, true, true, true, false]) 10 rfl (by kernel_rfl) rfl ?_
                replace hS := hS.pick [1, 0, 2, 3, 4, 5, 6, 7, 8] (by decide) rfl
                refine WL.call (args := [.tmp 39, .tmp 48]) cf_51 rfl rfl (save_c bj bd 128 num hold A1 A2 m1 c1 m2 c2 t1 t2 bn vs vp 256 ss _ (ST.part (fr := [_, _, _]) (es := (esJ bj bd 128 num hold (.slice A1 m1 c1) (.slice A2 m2 c2) t1 t2 bn vs vp 256 ss)) hS) (by omega) hinv.ds _ _ _ _ _ _ s1 s2 (hS.rw_ (k := 0) rfl).rs (hS.rw_ (k := 1) rfl).rs (fun _ b hb => ST.notPart (fr := [_, _, _]) (es := (esJ bj bd 128 num hold (.slice A1 m1 c1) (.slice A2 m2 c2) t1 t2 bn vs vp 256 ss)) hS (k := 0) rfl hb) (fun _ b hb => ST.notPart (fr := [_, _, _]) (es := (esJ bj bd 128 num hold (.slice A1 m1 c1) (.slice A2 m2 c2) t1 t2 bn vs vp 256 ss)) hS (k := 1) rfl hb) (by omega) (by omega) (by omega) (if hold = 0 then 1 else 0) (fun h => if_pos h) (fun h => if_neg h) (by rw [recB_len]; omega)) ?_
                rintro _ w ⟨rfl, W1, W2, vs2, vp2, ss2, hsav, hS2⟩
                refine ⟨_, rfl, ?_⟩
                replace hS := ST.call (fr := [_, _, _]) (es := (esJ bj bd 128 num hold (.slice A1 m1 c1) (.slice A2 m2 c2) t1 t2 bn vs vp 256 ss)) hS hS2
                simp only [List.cons_append, List.nil_append] at hS
                replace hS := hS.drop.drop
                obtain ⟨hinv2, AR, hAR, hopn⟩ := hinv.save hsav (by split <;> simp) (by omega) (by omega) (by omega) (by omega)
                have hend : ∃ (num2 : UInt64) (hold2 : Int) (W1 W2 vs2 vp2 : Value) (ss2 : List (List UInt8)) (ar : Nat) (AR : Nat → UInt64 × List UInt8 × List UInt8), JInv 256 128 num2 ss2 (k + 1) ∧ (∀ a, a < 2 → AI ss2 128 a (AR a)) ∧ opn AR 2 = (num2, (ar : Int), s1, s2) ∧ ST w0 No _ (.blk b7 78 [.slice B1 k1 d1, .slice B2 k2 d2] :: (esJ bj bd 128 num2 hold2 W1 W2 s1 s2 bn vs2 vp2 256 ss2)) := ⟨_, _, _, _, _, _, _, _, AR, hinv2, hAR, hopn, hS⟩
                refine WL.nil ?_
                refine QN.held (hS.bk (k := 0) rfl) ?_
                refine WH.take (listed' := #[true, true, true, true, true, true, true, true, true, true, true, true]) 11 rfl (by kernel_rfl) (by kernel_rfl) (by kernel_rfl) (fun _ _ _ h => h) rfl (fun w _ => PV.rv (pv_neq rfl rfl) w) (hS.bk (k := 0) rfl) rfl ?_
                refine WH.done (by kernel_rfl) ?_
                refine QN.thenW ?_
                refine WC.condDF rfl (by simp) ?_
                refine WC.skip ?_
                refine QN.midE ?_
                exact ⟨(()), (Sub.cons rfl (Sub.cons rfl (Sub.cons rfl (Sub.cons rfl (Sub.cons rfl (Sub.cons rfl Sub.nil)))))), hend⟩
            · skip
              refine WL.build0 hS slT_22 rfl ?_
              intro e44 w he44 hS
              refine WL.nil ?_
              refine QN.held (hS.bk (k := 1) rfl) ?_
              refine WH.one (listed' := #[true, true, true, true, false, true, true, true, false, false, false, false]) 1 rfl (by kernel_rfl) rfl ?_
              refine WL.build0 hS slT_22 rfl ?_
              intro e40 w he40 hS
              refine WL.nil ?_
              refine QN.held (hS.bk (k := 2) rfl) ?_
              refine WH.one (listed' := #[true, true, true, true, true, true, true, true, false, false, false, false]) 4 rfl (by kernel_rfl) rfl ?_
              refine WL.append (k := 0) (N := 65536) hS slT_22 zlenT_5 (by decide) rfl rfl rfl (x1.no hS.fr) bs8_one (by simp [bs8_len]; omega) (by omega) (by simp [maxLen]) rfl ?_
              intro v43 w hFr43 hS
              try simp only [List.set] at hS
              rw [List.nil_append] at hS
              obtain ⟨A43, m43, c43, rfl, _, _, _⟩ := (hS.rw_ (k := 0) rfl).anyForm
              refine WL.nil ?_
              refine QN.held (hS.bk (k := 2) rfl) ?_
              refine WH.one (listed' := #[true, true, true, true, true, true, true, true, true, false, false, false]) 8 rfl (by kernel_rfl) rfl ?_
              refine WL.append (k := 1) (N := 65536) hS slT_22 zlenT_5 (by decide) rfl rfl rfl (x2.no hS.fr) bs8_one (by simp [bs8_len]; omega) (by omega) (by simp [maxLen]) rfl ?_
              intro v47 w hFr47 hS
              try simp only [List.set] at hS
              rw [List.nil_append] at hS
              obtain ⟨A47, m47, c47, rfl, _, _, _⟩ := (hS.rw_ (k := 1) rfl).anyForm
              refine WL.nil ?_
              refine QN.held (hS.bk (k := 2) rfl) ?_
              refine WH.take (listed' := #[true, true, true, true, true, true, true, true, true, true, false, false]) 9 rfl (by kernel_rfl) (by kernel_rfl) (by kernel_rfl) (fun _ _ _ h => h) rfl (fun w _ => PV.rv (pv_buildS (parts := [(0, .tmp 43), (1, .tmp 47)]) (cells := [.slice A43 m43 c43, .slice A47 m47 c47]) layT_78 zeroT_78 rfl rfl) w) (hS.bk (k := 2) rfl) rfl ?_
              refine WH.one (listed' := #[true, true, true, true, true, true, true, true, true, true, true, false]) 10 rfl (by kernel_rfl) rfl ?_
              replace hS := hS.pick [0, 1, 2, 3, 4, 5, 6, 7, 8] (by decide) rfl
              refine WL.call (args := [.tmp 39, .tmp 48]) cf_51 rfl rfl (save_c bj bd 128 num hold A1 A2 m1 c1 m2 c2 t1 t2 bn vs vp 256 ss _ (ST.part (fr := [_, _, _]) (es := (esJ bj bd 128 num hold (.slice A1 m1 c1) (.slice A2 m2 c2) t1 t2 bn vs vp 256 ss)) hS) (by omega) hinv.ds _ _ _ _ _ _ s1 s2 (hS.rw_ (k := 0) rfl).rs (hS.rw_ (k := 1) rfl).rs (fun _ b hb => ST.notPart (fr := [_, _, _]) (es := (esJ bj bd 128 num hold (.slice A1 m1 c1) (.slice A2 m2 c2) t1 t2 bn vs vp 256 ss)) hS (k := 0) rfl hb) (fun _ b hb => ST.notPart (fr := [_, _, _]) (es := (esJ bj bd 128 num hold (.slice A1 m1 c1) (.slice A2 m2 c2) t1 t2 bn vs vp 256 ss)) hS (k := 1) rfl hb) (by omega) (by omega) (by omega) (if hold = 0 then 1 else 0) (fun h => if_pos h) (fun h => if_neg h) (by rw [recB_len]; omega)) ?_
              rintro _ w ⟨rfl, W1, W2, vs2, vp2, ss2, hsav, hS2⟩
              refine ⟨_, rfl, ?_⟩
              replace hS := ST.call (fr := [_, _, _]) (es := (esJ bj bd 128 num hold (.slice A1 m1 c1) (.slice A2 m2 c2) t1 t2 bn vs vp 256 ss)) hS hS2
              simp only [List.cons_append, List.nil_append] at hS
              replace hS := hS.drop.drop
              obtain ⟨hinv2, AR, hAR, hopn⟩ := hinv.save hsav (by split <;> simp) (by omega) (by omega) (by omega) (by omega)
              have hend : ∃ (num2 : UInt64) (hold2 : Int) (W1 W2 vs2 vp2 : Value) (ss2 : List (List UInt8)) (ar : Nat) (AR : Nat → UInt64 × List UInt8 × List UInt8), JInv 256 128 num2 ss2 (k + 1) ∧ (∀ a, a < 2 → AI ss2 128 a (AR a)) ∧ opn AR 2 = (num2, (ar : Int), s1, s2) ∧ ST w0 No _ (.blk b7 78 [.slice B1 k1 d1, .slice B2 k2 d2] :: (esJ bj bd 128 num2 hold2 W1 W2 s1 s2 bn vs2 vp2 256 ss2)) := ⟨_, _, _, _, _, _, _, _, AR, hinv2, hAR, hopn, hS⟩
              refine WL.nil ?_
              refine QN.held (hS.bk (k := 0) rfl) ?_
              refine WH.take (listed' := #[true, true, true, true, true, true, true, true, true, true, true, true]) 11 rfl (by kernel_rfl) (by kernel_rfl) (by kernel_rfl) (fun _ _ _ h => h) rfl (fun w _ => PV.rv (pv_neq rfl rfl) w) (hS.bk (k := 0) rfl) rfl ?_
              refine WH.done (by kernel_rfl) ?_
              refine QN.thenW ?_
              refine WC.condDF rfl (by simp) ?_
              refine WC.skip ?_
              refine QN.midE ?_
              exact ⟨(()), (Sub.cons rfl (Sub.cons rfl (Sub.cons rfl (Sub.cons rfl (Sub.cons rfl (Sub.cons rfl Sub.nil)))))), hend⟩
          · rintro u w hR
            obtain ⟨num2, hold2, W1, W2, vs2, vp2, ss2, ar, AR, hinv2, hAR, hopn, hS⟩ := hR
            simp only [esJ, esK] at hS
            have hdl := hinv2.ds.len
            refine WC.seq ?_
            refine WC.region ?_
            refine WL.pv (pv_move rfl) rfl ?_
            refine WL.call (args := [.tmp 52]) cf_50 rfl rfl (open_c bd bn 256 vs2 vp2 _ (hS.bk (k := 4) rfl) ss2 (hS.bk (k := 5) rfl) hinv2.ds (by omega) AR hAR) ?_
            rintro _ w ⟨bj2, A3, A4, m3, c3, m4, c4, rfl, hS2⟩
            refine ⟨_, rfl, ?_⟩
            replace hS := hS.join hS2
            simp only [hopn, List.cons_append, List.nil_append] at hS
            refine WL.pv (pv_move rfl) rfl ?_
            refine WL.pv (pv_extL rfl rfl) rfl ?_
            refine WL.pv (pv_extL rfl rfl) rfl ?_
            refine WL.pv (pv_assign rfl) rfl ?_
            refine WL.pv (pv_assign rfl) rfl ?_
            refine WL.nil ?_
            refine QN.thenW ?_
            refine WC.seq ?_
            refine WC.region ?_
            refine WL.pv (pv_move rfl) rfl ?_
            refine WL.call (args := [.tmp 57]) cf_52 rfl rfl (state_c bj2 bd (256 / 2) num2 (ar : Int) A3 A4 m3 c3 m4 c4 _ (hS.bk (k := 0) rfl) s1 s2 (hS.rw_ (k := 1) rfl).rs (hS.rw_ (k := 2) rfl).rs (by omega) (by omega) (by omega)) ?_
            rintro _ w ⟨v1, v2, rfl, hS2⟩
            refine ⟨_, rfl, ?_⟩
            replace hS := hS.join hS2
            simp only [List.cons_append, List.nil_append] at hS
            obtain ⟨E1, e1, g1, rfl, _, _, _⟩ := (hS.rw_ (k := 1) rfl).anyForm
            obtain ⟨E2, e2, g2, rfl, _, _, _⟩ := (hS.rw_ (k := 0) rfl).anyForm
            refine WL.pv (pv_move rfl) rfl ?_
            refine WL.pv (pv_extL rfl rfl) rfl ?_
            refine WL.pv (pv_extL rfl rfl) rfl ?_
            refine WL.alloc hS zeroT_78 rfl ?_
            intro b10 w hb10 hS
            refine WL.storeAll (k := 0) (vs := [.slice E1 e1 g1, .slice E2 e2 g2]) hS (by rw [sizeT_78]; simp) rfl rfl rfl (by first | (simp; done) | simp [Value.oneCell']) (by simp) ?_
            intro w hS
            try simp only [List.set] at hS
            refine WL.pv (pv_assign rfl) rfl ?_
            refine WL.nil ?_
            refine QN.thenW ?_
            refine WC.seq ?_
            refine WC.region ?_
            refine WL.pv (pv_move rfl) rfl ?_
            refine WL.pv (pv_neq rfl rfl) rfl ?_
            refine WL.pv (pv_move rfl) rfl ?_
            refine WL.guardT rfl rfl rfl (lkF rfl (by simp)) ?_
            refine WL.pv (pv_move rfl) rfl ?_
            refine WL.guardT rfl rfl rfl (lkF rfl (by simp)) ?_
            refine WL.pv (pv_not rfl) rfl ?_
            refine WL.pv (pv_pick0 (lkF rfl (by simp)) rfl) rfl ?_
            refine WL.pv (pv_move rfl) rfl ?_
            refine WL.guardT rfl rfl rfl (lkB rfl rfl) ?_
            refine WL.rv (rv_load_all (k := 0) hS rfl rfl (by rw [aggT_78]; simp)) rfl ?_
            refine WL.guardT rfl rfl rfl (lkB rfl rfl) ?_
            refine WL.rv (rv_load_all (k := 6) hS rfl rfl (by rw [aggT_78]; simp)) rfl ?_
            refine WL.guardT rfl rfl rfl (lkB rfl rfl) ?_
            refine WL.call (args := [.tmp 68, .tmp 69]) cf_53 rfl rfl (sameSt_c _ _ _ _ _ _ _ _ _ _ _ _ s1 s2 s1 s2 _ (hS.rw_ (k := 2) rfl).rs (hS.rw_ (k := 1) rfl).rs (x1.no hS.fr) (x2.no hS.fr)) ?_
            rintro _ w ⟨rfl, hF⟩
            refine ⟨_, rfl, ?_⟩
            replace hS := hS.no hF
            rw [decide_eq_true ⟨rfl, rfl⟩]
            refine WL.guardT rfl rfl rfl (lkB rfl rfl) ?_
            refine WL.pv (pv_not rfl) rfl ?_
            refine WL.pv (pv_pick0 (lkB rfl rfl) rfl) rfl ?_
            refine WL.nil ?_
            refine QN.thenW ?_
            refine WC.condF rfl rfl ?_
            refine WC.skip ?_
            refine QN.blockN ?_
            refine QN.thenW ?_
            refine WC.region ?_
            refine WL.pv (pv_add rfl rfl (by omega)) rfl ?_
            refine WL.pv (pv_move rfl) rfl ?_
            refine WL.nil ?_
            refine QN.roundE ?_
            refine ⟨(k + 1), (Sub.cons rfl (Sub.cons rfl (Sub.cons rfl (Sub.cons rfl (Sub.cons rfl Sub.nil))))), ⟨by omega, _, _, _, _, _, _, _, _, _, hinv2, hS.sub (.cons _ (.cons _ (.cons _ (.cons _ (.cons _ (.cons _ (.cons _ (.cons_cons _ (.cons_cons _ (.cons_cons _ (.cons_cons _ (.cons_cons _ (.cons_cons _ .slnil)))))))))))))⟩, ?_⟩
            first | omega | (dsimp only; omega)
    · skip
      refine WC.exit ?_
      refine QN.thenX ?_
      refine QN.thenX ?_
      refine QN.blockX ?_
      refine QN.thenW ?_
      refine WC.seq ?_
      refine WC.region ?_
      refine WL.pv (pv_assign rfl) rfl ?_
      refine WL.nil ?_
      refine QN.thenW ?_
      refine WC.ret ?_
      refine QN.ret1 rfl rfl ?_
      exact ⟨rfl, hS.fr⟩

end Go.Proofs.Ytjcebkhhgdgohaa
