/- What a few functions of the program compute, part KA. -/
import Derived.Test.YtjcebkhhgdgohaaK9
namespace Go.Proofs.Ytjcebkhhgdgohaa
open Go Go.RowKit Go.Eng
theorem cf_46 : callable Try.prog 46 = true := by kernel_rfl
theorem cf_47 : callable Try.prog 47 = true := by kernel_rfl
set_option maxRecDepth 100000 in
theorem hkdfUse_c (master : List UInt8) (s : ByteArray) (g : Int) (w0 : World) (hml : master.length = 32) (hmx : s.size ≤ 9223372036854775807) (hg : -9223372036854775808 ≤ g ∧ g ≤ 9223372036854775807) : Calls Try.prog 15 #[.agg (bs8 master).toArray, .string s, .int .i64 g] w0 fun e w => e = .returned (.bool true) ∧ Fr No w0 w := by
  refine calls_of_WC (args := [.agg (bs8 master).toArray, .string s, .int .i64 g]) Try.func15 rfl Try.ntmps15 rfl ?_
  show WC _ _ _ _ [(0, .agg (bs8 master).toArray), (1, .string s), (2, .int .i64 g)] _
  have hS := ST.start w0 No
  refine WC.seq ?_
  refine WC.region ?_
  refine WL.box (vs := bs8 master) hS rfl rfl rfl ?_
  intro b3 w hb3 hS
  refine WL.pv (pv_assign rfl) rfl ?_
  refine WL.nil ?_
  refine QN.thenW ?_
  refine WC.seq ?_
  refine WC.seq ?_
  refine WC.region ?_
  refine WL.call (args := []) cf_29 rfl rfl (wakesK_c _) ?_
  rintro _ w ⟨rfl, hF⟩
  refine ⟨_, rfl, ?_⟩
  replace hS := hS.no hF
  refine WL.pv (pv_not rfl) rfl ?_
  refine WL.nil ?_
  refine QN.thenW ?_
  refine WC.condF rfl rfl ?_
  refine WC.skip ?_
  refine QN.thenW ?_
  refine WC.seq ?_
  refine WC.seq ?_
  refine WC.region ?_
  refine WL.pv (pv_move rfl) rfl ?_
  refine WL.pv (pv_lenStr Try.underlying9 rfl) rfl ?_
  refine WL.pv (pv_gtr rfl rfl) rfl ?_
  refine WL.nil ?_
  refine QN.thenW ?_
  refine WC.condD rfl (fun hc15 => ?_) (fun hc15 => ?_)
  · skip
    refine WC.seq ?_
    refine WC.region ?_
    refine WL.pv (pv_assign rfl) rfl ?_
    refine WL.nil ?_
    refine QN.thenW ?_
    refine WC.ret ?_
    refine QN.thenR ?_
    refine QN.ret1 rfl rfl ?_
    exact ⟨by simp, hS.fr⟩
  · skip
    refine WC.skip ?_
    refine QN.thenW ?_
    refine WC.seq ?_
    refine WC.region ?_
    refine WL.rv (rv_load_all (k := 0) hS rfl rfl (by rw [aggT_25, bs8_len, hml])) rfl ?_
    refine WL.pv (pv_move rfl) rfl ?_
    refine WL.pv (pv_move rfl) rfl ?_
    refine WL.call (args := [.tmp 17, .tmp 18, .tmp 19]) cf_46 rfl rfl (use_c master s g _ hml (by omega) hg) ?_
    rintro _ w ⟨rfl, hF⟩
    refine ⟨_, rfl, ?_⟩
    replace hS := hS.no hF
    refine WL.pv (pv_move rfl) rfl ?_
    refine WL.pv (pv_extL rfl rfl) rfl ?_
    refine WL.pv (pv_extL rfl rfl) rfl ?_
    refine WL.alloc hS zeroT_25 rfl ?_
    intro b7 w hb7 hS
    refine WL.storeAll (k := 0) (vs := bs8 (useV master s g).1) hS (by rw [sizeT_25, bs8_len, useV_len]) rfl rfl rfl bs8_one (by rw [bs8_len, useV_len]; simp) ?_
    intro w hS
    try simp only [List.set] at hS
    refine WL.pv (pv_assign rfl) rfl ?_
    refine WL.nil ?_
    refine QN.thenW ?_
    refine WC.seq ?_
    refine WC.region ?_
    refine WL.rv (rv_load_all (k := 1) hS rfl rfl (by rw [aggT_25, bs8_len, hml])) rfl ?_
    refine WL.pv (pv_move rfl) rfl ?_
    refine WL.pv (pv_move rfl) rfl ?_
    refine WL.call (args := [.tmp 24, .tmp 25, .tmp 26]) cf_47 rfl rfl (refUse_c master s g _ hml (by omega) hg) ?_
    rintro _ w ⟨rfl, hF⟩
    refine ⟨_, rfl, ?_⟩
    replace hS := hS.no hF
    refine WL.pv (pv_move rfl) rfl ?_
    refine WL.pv (pv_extL rfl rfl) rfl ?_
    refine WL.pv (pv_extL rfl rfl) rfl ?_
    refine WL.alloc hS zeroT_25 rfl ?_
    intro b9 w hb9 hS
    refine WL.storeAll (k := 0) (vs := bs8 (useV master s g).1) hS (by rw [sizeT_25, bs8_len, useV_len]) rfl rfl rfl bs8_one (by rw [bs8_len, useV_len]; simp) ?_
    intro w hS
    try simp only [List.set] at hS
    refine WL.pv (pv_assign rfl) rfl ?_
    refine WL.nil ?_
    refine QN.thenW ?_
    refine WC.seq ?_
    refine WC.region ?_
    refine WL.rv (rv_load_all (k := 1) hS rfl rfl (by rw [aggT_25, bs8_len, useV_len])) rfl ?_
    refine WL.rv (rv_load_all (k := 0) hS rfl rfl (by rw [aggT_25, bs8_len, useV_len])) rfl ?_
    refine WL.pv (pv_eqlA8 Try.underlying25 Try.underlying5 cellsT_5 eqgT_25 rfl rfl (useV_len _ _ _) (useV_len _ _ _)) rfl ?_
    refine WL.pv (pv_move rfl) rfl ?_
    refine WL.guardT rfl rfl rfl (lkT rfl (by rfl)) ?_
    refine WL.pv (pv_move rfl) rfl ?_
    refine WL.guardT rfl rfl rfl (lkT rfl (by rfl)) ?_
    refine WL.pv (pv_move rfl) rfl ?_
    refine WL.guardT rfl rfl rfl (lkT rfl (by rfl)) ?_
    refine WL.pv (pv_eql rfl rfl) rfl ?_
    refine WL.pv (pv_pick1 (lkT rfl (by rfl)) rfl) rfl ?_
    refine WL.pv (pv_assign rfl) rfl ?_
    refine WL.nil ?_
    refine QN.thenW ?_
    refine WC.ret ?_
    refine QN.ret1 rfl rfl ?_
    exact ⟨by simp, hS.fr⟩

end Go.Proofs.Ytjcebkhhgdgohaa
