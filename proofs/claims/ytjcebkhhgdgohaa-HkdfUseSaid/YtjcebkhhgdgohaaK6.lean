/- What a few functions of the program compute, part K6. -/
import Derived.Test.YtjcebkhhgdgohaaK5
import Derived.Test.YtjcebkhhgdgohaaEngW
namespace Go.Proofs.Ytjcebkhhgdgohaa
open Go Go.RowKit Go.Eng
theorem cf_33 : callable Try.prog 33 = true := by kernel_rfl

theorem rs_nil {w : World} : Rs w (.slice none 0 0) 1 (bs8 []) := ⟨none, 0, 0, rfl, Nat.le_refl _, by simp [maxLen], by simp [bs8], .inl rfl⟩
theorem expO_pre (key info : List UInt8) (b a : Nat) (h : b ≤ a) : ∃ r, expO key info a = expO key info b ++ r := by
  induction a with
  | zero => exact ⟨[], by rw [show b = 0 from by omega, List.append_nil]⟩
  | succ a ih =>
    by_cases hb : b = a + 1
    · exact ⟨[], by rw [hb, List.append_nil]⟩
    · obtain ⟨r, hr⟩ := ih (by omega)
      exact ⟨r ++ expL key info (a + 1), by rw [expO, hr, List.append_assoc]⟩
theorem expandV_len (key info : List UInt8) (n : Nat) : (expandV key info n).length = n := by rw [expandV, List.length_take, expO_len]; omega
theorem expandV_pre (key info : List UInt8) (n m : Nat) (h : m ≤ n) : (expandV key info n).take m = expandV key info m := by
  obtain ⟨r, hr⟩ := expO_pre key info ((m + 31) / 32) ((n + 31) / 32) (by omega)
  rw [expandV, expandV, hr, List.take_take, Nat.min_eq_left h, List.take_append_of_le_length (by rw [expO_len]; omega)]

theorem pv_subN {P : Program} {l : Env} {d : Nat} {ty : TypeId} {pos : String} {af : Array Edge} {T U : TypeId} {x y : Operand} {a b : Nat} (hx : ev l x = some (.int .i64 (a : Int))) (hy : ev l y = some (.int .i64 (b : Int))) (h : b ≤ a) (ha : a ≤ 9223372036854775807) : PV P l ⟨some d, .binOp .sub T x y U, ty, pos, af, none⟩ (.int .i64 ((a - b : Nat) : Int)) := by
  rw [show ((a - b : Nat) : Int) = (a : Int) - (b : Int) from by omega]; exact pv_sub hx hy (by omega)

set_option maxRecDepth 100000 in
theorem hkdfExpand_c (A : Option Addr) (m c : Nat) (n : Int) (key info : List UInt8) (w0 : World) (hkl : key.length = 32) (hi : Rs w0 (.slice A m c) 1 (bs8 info)) (hn : -9223372036854775808 ≤ n ∧ n ≤ 9223372036854775807) : Calls Try.prog 11 #[.agg (bs8 key).toArray, .slice A m c, .int .i64 n] w0 fun e w => e = .returned (.bool true) ∧ Fr No w0 w := by
  have hln := hi.len
  rw [bs8_len] at hln
  have hmx : m ≤ 9223372036854775807 := by have := hln; simp only [maxLen] at this; omega
  refine calls_of_WC (args := [.agg (bs8 key).toArray, .slice A m c, .int .i64 n]) Try.func11 rfl Try.ntmps11 rfl ?_
  show WC _ _ _ _ [(0, .agg (bs8 key).toArray), (1, .slice A m c), (2, .int .i64 n)] _
  have hS := ST.start w0 No
  refine WC.seq ?_
  refine WC.region ?_
  refine WL.box (vs := bs8 key) hS rfl rfl rfl ?_
  intro b3 w hb3 hS
  refine WL.pv (pv_assign rfl) rfl ?_
  refine WL.nil ?_
  refine QN.thenW ?_
  refine WC.seq ?_
  refine WC.seq ?_
  refine WC.region ?_
  refine WL.call (args := []) cf_29 rfl rfl (wakesK_c _) ?_
  rintro _ w ⟨rfl, hF⟩
  refine ⟨_, rfl, ?_⟩
  replace hS := hS.no hF
  refine WL.pv (pv_not rfl) rfl ?_
  refine WL.nil ?_
  refine QN.thenW ?_
  refine WC.condF rfl rfl ?_
  refine WC.skip ?_
  refine QN.thenW ?_
  refine WC.seq ?_
  refine WC.seq ?_
  by_cases h300 : m ≤ 300
  · skip
    by_cases hneg : n < 0
    · skip
      refine WC.region ?_
      refine WL.pv (pv_move rfl) rfl ?_
      refine WL.pv (pv_len slS_22 rfl) rfl ?_
      refine WL.pv (pv_gtr rfl rfl) rfl ?_
      refine WL.pv (pv_move rfl) rfl ?_
      refine WL.guardT rfl rfl rfl (lkF rfl (by omega)) ?_
      refine WL.pv (pv_move rfl) rfl ?_
      refine WL.guardT rfl rfl rfl (lkF rfl (by omega)) ?_
      refine WL.pv (pv_gtr rfl rfl) rfl ?_
      refine WL.guardT rfl rfl rfl (lkF rfl (by omega)) ?_
      refine WL.pv (pv_move rfl) rfl ?_
      refine WL.guardF rfl rfl rfl (lkF rfl (by omega)) rfl rfl ?_
      refine WL.guardF rfl rfl rfl (lkF rfl (by omega)) rfl rfl ?_
      refine WL.guardT rfl rfl rfl (lkF rfl (by omega)) ?_
      refine WL.pv (pv_pick0 (lkF rfl (by omega)) rfl) rfl ?_
      refine WL.pv (pv_pick0 (lkF rfl (by omega)) rfl) rfl ?_
      refine WL.nil ?_
      refine QN.thenW ?_
      refine WC.condF rfl rfl ?_
      refine WC.skip ?_
      refine QN.thenW ?_
      refine WC.seq ?_
      refine WC.draw (S := fun w => Bk w b3 25 (bs8 key)) (fuel := 11) (listed := #[false, false, false, false, false, false, false, false, false, false, false]) mixedO rfl rfl ?_
      have hS := hS.no (Fr.drew _)
      refine WH.take (listed' := #[true, false, false, false, false, false, false, false, false, false, false]) 0 rfl (by kernel_rfl) (by kernel_rfl) (by kernel_rfl) (fun _ _ _ h => h) rfl (fun w hS => rv_loadA (by rw [aggT_25, bs8_len, hkl]) rfl (fun j u hu => by rw [Nat.zero_add, Bk.cell hS]; exact hu)) (hS.bk (k := 0) rfl) rfl ?_
      refine WH.take (listed' := #[true, false, true, false, false, false, false, false, false, false, false]) 2 rfl (by kernel_rfl) (by kernel_rfl) (by kernel_rfl) (fun _ _ _ h => h) rfl (fun w _ => PV.rv (pv_move rfl) w) (hS.bk (k := 0) rfl) rfl ?_
      refine WH.take (listed' := #[true, false, true, false, true, false, false, false, false, false, false]) 4 rfl (by kernel_rfl) (by kernel_rfl) (by kernel_rfl) (fun _ _ _ h => h) rfl (fun w _ => PV.rv (pv_move rfl) w) (hS.bk (k := 0) rfl) rfl ?_
      refine WH.one (listed' := #[true, true, true, false, true, false, false, false, false, false, false]) 1 rfl (by kernel_rfl) rfl ?_
      refine WL.build0 hS slT_22 rfl ?_
      intro r28 w hr28 hS
      refine WL.nil ?_
      refine QN.held (hS.bk (k := 1) rfl) ?_
      refine WH.one (listed' := #[true, true, true, true, true, false, false, false, false, false, false]) 3 rfl (by kernel_rfl) rfl ?_
      refine WL.append (k := 0) (N := 65536) hS slT_22 zlenT_5 (by decide) rfl rfl rfl (hi.no hS.fr) bs8_one (by simp [bs8_len]; omega) (by omega) (by simp [maxLen]) rfl ?_
      intro v30 w hFr30 hS
      try simp only [List.set] at hS
      rw [List.nil_append] at hS
      obtain ⟨A3, m3, c3, rfl, _, _, _⟩ := (hS.rw_ (k := 0) rfl).anyForm
      refine WL.nil ?_
      refine QN.held (hS.bk (k := 1) rfl) ?_
      refine WH.one (listed' := #[true, true, true, true, true, true, false, false, false, false, false]) 5 rfl (by kernel_rfl) rfl ?_
      refine WL.call (args := [.tmp 27, .tmp 30, .tmp 31]) cf_32 rfl rfl (expandNo_c _ _ _ n key _ (by omega)) ?_
      rintro _ w ⟨rfl, hF⟩
      refine ⟨_, rfl, ?_⟩
      replace hS := hS.no hF
      refine WL.nil ?_
      refine QN.held (hS.bk (k := 1) rfl) ?_
      refine WH.take (listed' := #[true, true, true, true, true, true, true, false, false, false, false]) 6 rfl (by kernel_rfl) (by kernel_rfl) (by kernel_rfl) (fun _ _ _ h => h) rfl (fun w _ => PV.rv (pv_move rfl) w) (hS.bk (k := 1) rfl) rfl ?_
      refine WH.take (listed' := #[true, true, true, true, true, true, true, true, false, false, false]) 7 rfl (by kernel_rfl) (by kernel_rfl) (by kernel_rfl) (fun _ _ _ h => h) rfl (fun w _ => PV.rv (pv_extL rfl rfl) w) (hS.bk (k := 1) rfl) rfl ?_
      refine WH.take (listed' := #[true, true, true, true, true, true, true, true, true, false, false]) 8 rfl (by kernel_rfl) (by kernel_rfl) (by kernel_rfl) (fun _ _ _ h => h) rfl (fun w _ => PV.rv (pv_extL rfl rfl) w) (hS.bk (k := 1) rfl) rfl ?_
      refine WH.take (listed' := #[true, true, true, true, true, true, true, true, true, true, false]) 9 rfl (by kernel_rfl) (by kernel_rfl) (by kernel_rfl) (fun _ _ _ h => h) rfl (fun w _ => PV.rv (pv_assign rfl) w) (hS.bk (k := 1) rfl) rfl ?_
      refine WH.take (listed' := #[true, true, true, true, true, true, true, true, true, true, true]) 10 rfl (by kernel_rfl) (by kernel_rfl) (by kernel_rfl) (fun _ _ _ h => h) rfl (fun w _ => PV.rv (pv_assign rfl) w) (hS.bk (k := 1) rfl) rfl ?_
      refine WH.done (by kernel_rfl) ?_
      refine QN.thenW ?_
      refine WC.seq ?_
      refine WC.region ?_
      refine WL.rv (rv_load_all (k := 1) hS rfl rfl (by rw [aggT_25, bs8_len, hkl])) rfl ?_
      refine WL.pv (pv_move rfl) rfl ?_
      refine WL.pv (pv_move rfl) rfl ?_
      refine WL.call (args := [.tmp 36, .tmp 37, .tmp 38]) cf_33 rfl rfl (refExpandNo_c _ _ _ n key _ (by omega)) ?_
      rintro _ w ⟨rfl, hF⟩
      refine ⟨_, rfl, ?_⟩
      replace hS := hS.no hF
      refine WL.pv (pv_move rfl) rfl ?_
      refine WL.pv (pv_extL rfl rfl) rfl ?_
      refine WL.pv (pv_extL rfl rfl) rfl ?_
      refine WL.pv (pv_assign rfl) rfl ?_
      refine WL.pv (pv_assign rfl) rfl ?_
      refine WL.nil ?_
      refine QN.thenW ?_
      refine WC.seq ?_
      refine WC.seq ?_
      refine WC.region ?_
      refine WL.pv (pv_move rfl) rfl ?_
      refine WL.pv (pv_move rfl) rfl ?_
      refine WL.call (args := [.tmp 42, .tmp 43]) cf_22 rfl rfl (same_c _ _ _ _ _ _ [] [] _ rs_nil rs_nil) ?_
      rintro _ w ⟨rfl, hF⟩
      refine ⟨_, rfl, ?_⟩
      replace hS := hS.no hF
      refine WL.pv (pv_not rfl) rfl ?_
      refine WL.pv (pv_move rfl) rfl ?_
      refine WL.guardT rfl rfl rfl (lkB rfl (by simp)) ?_
      refine WL.pv (pv_move rfl) rfl ?_
      refine WL.guardT rfl rfl rfl (lkB rfl (by simp)) ?_
      refine WL.pv (pv_move rfl) rfl ?_
      refine WL.guardT rfl rfl rfl (lkB rfl (by simp)) ?_
      refine WL.pv (pv_neq rfl rfl) rfl ?_
      refine WL.pv (pv_pick0 (lkB rfl (by simp)) rfl) rfl ?_
      refine WL.nil ?_
      refine QN.thenW ?_
      refine WC.condDF rfl (by omega) ?_
      refine WC.skip ?_
      refine QN.thenW ?_
      refine WC.seq ?_
      refine WC.seq ?_
      refine WC.region ?_
      refine WL.pv (pv_move rfl) rfl ?_
      refine WL.pv (pv_neq rfl rfl) rfl ?_
      refine WL.pv (pv_move rfl) rfl ?_
      refine WL.guardF rfl rfl rfl (lkT rfl (by decide)) rfl rfl ?_
      refine WL.guardF rfl rfl rfl (lkT rfl (by decide)) rfl rfl ?_
      refine WL.pv (pv_pick1 (lkT rfl (by decide)) rfl) rfl ?_
      refine WL.nil ?_
      refine QN.thenW ?_
      refine WC.condT rfl rfl ?_
      refine WC.seq ?_
      refine WC.region ?_
      refine WL.pv (pv_assign rfl) rfl ?_
      refine WL.nil ?_
      refine QN.thenW ?_
      refine WC.ret ?_
      refine QN.thenR ?_
      refine QN.ret1 rfl rfl ?_
      exact ⟨by simp, hS.fr⟩
    · skip
      by_cases hbig : 8160 < n
      · skip
        refine WC.region ?_
        refine WL.pv (pv_move rfl) rfl ?_
        refine WL.pv (pv_len slS_22 rfl) rfl ?_
        refine WL.pv (pv_gtr rfl rfl) rfl ?_
        refine WL.pv (pv_move rfl) rfl ?_
        refine WL.guardT rfl rfl rfl (lkF rfl (by omega)) ?_
        refine WL.pv (pv_move rfl) rfl ?_
        refine WL.guardT rfl rfl rfl (lkF rfl (by omega)) ?_
        refine WL.pv (pv_gtr rfl rfl) rfl ?_
        refine WL.guardT rfl rfl rfl (lkF rfl (by omega)) ?_
        refine WL.pv (pv_move rfl) rfl ?_
        refine WL.guardT rfl rfl rfl (lkT rfl (by omega)) ?_
        refine WL.pv (pv_move rfl) rfl ?_
        refine WL.guardT rfl rfl rfl (lkT rfl (by omega)) ?_
        refine WL.pv (pv_leq rfl rfl) rfl ?_
        refine WL.guardT rfl rfl rfl (lkF rfl (by omega)) ?_
        refine WL.pv (pv_pick1 (lkT rfl (by omega)) rfl) rfl ?_
        refine WL.pv (pv_pick0 (lkF rfl (by omega)) rfl) rfl ?_
        refine WL.nil ?_
        refine QN.thenW ?_
        refine WC.condDF rfl (by omega) ?_
        refine WC.skip ?_
        refine QN.thenW ?_
        refine WC.seq ?_
        refine WC.draw (S := fun w => Bk w b3 25 (bs8 key)) (fuel := 11) (listed := #[false, false, false, false, false, false, false, false, false, false, false]) mixedO rfl rfl ?_
        have hS := hS.no (Fr.drew _)
        refine WH.take (listed' := #[true, false, false, false, false, false, false, false, false, false, false]) 0 rfl (by kernel_rfl) (by kernel_rfl) (by kernel_rfl) (fun _ _ _ h => h) rfl (fun w hS => rv_loadA (by rw [aggT_25, bs8_len, hkl]) rfl (fun j u hu => by rw [Nat.zero_add, Bk.cell hS]; exact hu)) (hS.bk (k := 0) rfl) rfl ?_
        refine WH.take (listed' := #[true, false, true, false, false, false, false, false, false, false, false]) 2 rfl (by kernel_rfl) (by kernel_rfl) (by kernel_rfl) (fun _ _ _ h => h) rfl (fun w _ => PV.rv (pv_move rfl) w) (hS.bk (k := 0) rfl) rfl ?_
        refine WH.take (listed' := #[true, false, true, false, true, false, false, false, false, false, false]) 4 rfl (by kernel_rfl) (by kernel_rfl) (by kernel_rfl) (fun _ _ _ h => h) rfl (fun w _ => PV.rv (pv_move rfl) w) (hS.bk (k := 0) rfl) rfl ?_
        refine WH.one (listed' := #[true, true, true, false, true, false, false, false, false, false, false]) 1 rfl (by kernel_rfl) rfl ?_
        refine WL.build0 hS slT_22 rfl ?_
        intro r28 w hr28 hS
        refine WL.nil ?_
        refine QN.held (hS.bk (k := 1) rfl) ?_
        refine WH.one (listed' := #[true, true, true, true, true, false, false, false, false, false, false]) 3 rfl (by kernel_rfl) rfl ?_
        refine WL.append (k := 0) (N := 65536) hS slT_22 zlenT_5 (by decide) rfl rfl rfl (hi.no hS.fr) bs8_one (by simp [bs8_len]; omega) (by omega) (by simp [maxLen]) rfl ?_
        intro v30 w hFr30 hS
        try simp only [List.set] at hS
        rw [List.nil_append] at hS
        obtain ⟨A3, m3, c3, rfl, _, _, _⟩ := (hS.rw_ (k := 0) rfl).anyForm
        refine WL.nil ?_
        refine QN.held (hS.bk (k := 1) rfl) ?_
        refine WH.one (listed' := #[true, true, true, true, true, true, false, false, false, false, false]) 5 rfl (by kernel_rfl) rfl ?_
        refine WL.call (args := [.tmp 27, .tmp 30, .tmp 31]) cf_32 rfl rfl (expandNo_c _ _ _ n key _ (by omega)) ?_
        rintro _ w ⟨rfl, hF⟩
        refine ⟨_, rfl, ?_⟩
        replace hS := hS.no hF
        refine WL.nil ?_
        refine QN.held (hS.bk (k := 1) rfl) ?_
        refine WH.take (listed' := #[true, true, true, true, true, true, true, false, false, false, false]) 6 rfl (by kernel_rfl) (by kernel_rfl) (by kernel_rfl) (fun _ _ _ h => h) rfl (fun w _ => PV.rv (pv_move rfl) w) (hS.bk (k := 1) rfl) rfl ?_
        refine WH.take (listed' := #[true, true, true, true, true, true, true, true, false, false, false]) 7 rfl (by kernel_rfl) (by kernel_rfl) (by kernel_rfl) (fun _ _ _ h => h) rfl (fun w _ => PV.rv (pv_extL rfl rfl) w) (hS.bk (k := 1) rfl) rfl ?_
        refine WH.take (listed' := #[true, true, true, true, true, true, true, true, true, false, false]) 8 rfl (by kernel_rfl) (by kernel_rfl) (by kernel_rfl) (fun _ _ _ h => h) rfl (fun w _ => PV.rv (pv_extL rfl rfl) w) (hS.bk (k := 1) rfl) rfl ?_
        refine WH.take (listed' := #[true, true, true, true, true, true, true, true, true, true, false]) 9 rfl (by kernel_rfl) (by kernel_rfl) (by kernel_rfl) (fun _ _ _ h => h) rfl (fun w _ => PV.rv (pv_assign rfl) w) (hS.bk (k := 1) rfl) rfl ?_
        refine WH.take (listed' := #[true, true, true, true, true, true, true, true, true, true, true]) 10 rfl (by kernel_rfl) (by kernel_rfl) (by kernel_rfl) (fun _ _ _ h => h) rfl (fun w _ => PV.rv (pv_assign rfl) w) (hS.bk (k := 1) rfl) rfl ?_
        refine WH.done (by kernel_rfl) ?_
        refine QN.thenW ?_
        refine WC.seq ?_
        refine WC.region ?_
        refine WL.rv (rv_load_all (k := 1) hS rfl rfl (by rw [aggT_25, bs8_len, hkl])) rfl ?_
        refine WL.pv (pv_move rfl) rfl ?_
        refine WL.pv (pv_move rfl) rfl ?_
        refine WL.call (args := [.tmp 36, .tmp 37, .tmp 38]) cf_33 rfl rfl (refExpandNo_c _ _ _ n key _ (by omega)) ?_
        rintro _ w ⟨rfl, hF⟩
        refine ⟨_, rfl, ?_⟩
        replace hS := hS.no hF
        refine WL.pv (pv_move rfl) rfl ?_
        refine WL.pv (pv_extL rfl rfl) rfl ?_
        refine WL.pv (pv_extL rfl rfl) rfl ?_
        refine WL.pv (pv_assign rfl) rfl ?_
        refine WL.pv (pv_assign rfl) rfl ?_
        refine WL.nil ?_
        refine QN.thenW ?_
        refine WC.seq ?_
        refine WC.seq ?_
        refine WC.region ?_
        refine WL.pv (pv_move rfl) rfl ?_
        refine WL.pv (pv_move rfl) rfl ?_
        refine WL.call (args := [.tmp 42, .tmp 43]) cf_22 rfl rfl (same_c _ _ _ _ _ _ [] [] _ rs_nil rs_nil) ?_
        rintro _ w ⟨rfl, hF⟩
        refine ⟨_, rfl, ?_⟩
        replace hS := hS.no hF
        refine WL.pv (pv_not rfl) rfl ?_
        refine WL.pv (pv_move rfl) rfl ?_
        refine WL.guardT rfl rfl rfl (lkB rfl (by simp)) ?_
        refine WL.pv (pv_move rfl) rfl ?_
        refine WL.guardT rfl rfl rfl (lkB rfl (by simp)) ?_
        refine WL.pv (pv_move rfl) rfl ?_
        refine WL.guardT rfl rfl rfl (lkB rfl (by simp)) ?_
        refine WL.pv (pv_neq rfl rfl) rfl ?_
        refine WL.pv (pv_pick0 (lkB rfl (by simp)) rfl) rfl ?_
        refine WL.nil ?_
        refine QN.thenW ?_
        refine WC.condDF rfl (by omega) ?_
        refine WC.skip ?_
        refine QN.thenW ?_
        refine WC.seq ?_
        refine WC.seq ?_
        refine WC.region ?_
        refine WL.pv (pv_move rfl) rfl ?_
        refine WL.pv (pv_neq rfl rfl) rfl ?_
        refine WL.pv (pv_move rfl) rfl ?_
        refine WL.guardF rfl rfl rfl (lkT rfl (by decide)) rfl rfl ?_
        refine WL.guardF rfl rfl rfl (lkT rfl (by decide)) rfl rfl ?_
        refine WL.pv (pv_pick1 (lkT rfl (by decide)) rfl) rfl ?_
        refine WL.nil ?_
        refine QN.thenW ?_
        refine WC.condT rfl rfl ?_
        refine WC.seq ?_
        refine WC.region ?_
        refine WL.pv (pv_assign rfl) rfl ?_
        refine WL.nil ?_
        refine QN.thenW ?_
        refine WC.ret ?_
        refine QN.thenR ?_
        refine QN.ret1 rfl rfl ?_
        exact ⟨by simp, hS.fr⟩
      · skip
        by_cases hmid : 600 < n
        · skip
          refine WC.region ?_
          refine WL.pv (pv_move rfl) rfl ?_
          refine WL.pv (pv_len slS_22 rfl) rfl ?_
          refine WL.pv (pv_gtr rfl rfl) rfl ?_
          refine WL.pv (pv_move rfl) rfl ?_
          refine WL.guardT rfl rfl rfl (lkF rfl (by omega)) ?_
          refine WL.pv (pv_move rfl) rfl ?_
          refine WL.guardT rfl rfl rfl (lkF rfl (by omega)) ?_
          refine WL.pv (pv_gtr rfl rfl) rfl ?_
          refine WL.guardT rfl rfl rfl (lkF rfl (by omega)) ?_
          refine WL.pv (pv_move rfl) rfl ?_
          refine WL.guardT rfl rfl rfl (lkT rfl (by omega)) ?_
          refine WL.pv (pv_move rfl) rfl ?_
          refine WL.guardT rfl rfl rfl (lkT rfl (by omega)) ?_
          refine WL.pv (pv_leq rfl rfl) rfl ?_
          refine WL.guardT rfl rfl rfl (lkF rfl (by omega)) ?_
          refine WL.pv (pv_pick1 (lkT rfl (by omega)) rfl) rfl ?_
          refine WL.pv (pv_pick0 (lkF rfl (by omega)) rfl) rfl ?_
          refine WL.nil ?_
          refine QN.thenW ?_
          refine WC.condDT rfl (by omega) ?_
          refine WC.seq ?_
          refine WC.region ?_
          refine WL.pv (pv_assign rfl) rfl ?_
          refine WL.nil ?_
          refine QN.thenW ?_
          refine WC.ret ?_
          refine QN.thenR ?_
          refine QN.ret1 rfl rfl ?_
          exact ⟨by simp, hS.fr⟩
        · skip
          refine WC.region ?_
          refine WL.pv (pv_move rfl) rfl ?_
          refine WL.pv (pv_len slS_22 rfl) rfl ?_
          refine WL.pv (pv_gtr rfl rfl) rfl ?_
          refine WL.pv (pv_move rfl) rfl ?_
          refine WL.guardT rfl rfl rfl (lkF rfl (by omega)) ?_
          refine WL.pv (pv_move rfl) rfl ?_
          refine WL.guardT rfl rfl rfl (lkF rfl (by omega)) ?_
          refine WL.pv (pv_gtr rfl rfl) rfl ?_
          refine WL.guardT rfl rfl rfl (lkF rfl (by omega)) ?_
          refine WL.pv (pv_move rfl) rfl ?_
          refine WL.guardF rfl rfl rfl (lkF rfl (by omega)) rfl rfl ?_
          refine WL.guardF rfl rfl rfl (lkF rfl (by omega)) rfl rfl ?_
          refine WL.guardT rfl rfl rfl (lkF rfl (by omega)) ?_
          refine WL.pv (pv_pick0 (lkF rfl (by omega)) rfl) rfl ?_
          refine WL.pv (pv_pick0 (lkF rfl (by omega)) rfl) rfl ?_
          refine WL.nil ?_
          refine QN.thenW ?_
          refine WC.condF rfl rfl ?_
          refine WC.skip ?_
          refine QN.thenW ?_
          refine WC.seq ?_
          obtain ⟨k, rfl⟩ : ∃ k : Nat, n = (k : Int) := ⟨n.toNat, by omega⟩
          refine WC.draw (S := fun w => Bk w b3 25 (bs8 key)) (fuel := 11) (listed := #[false, false, false, false, false, false, false, false, false, false, false]) mixedO rfl rfl ?_
          have hS := hS.no (Fr.drew _)
          refine WH.take (listed' := #[true, false, false, false, false, false, false, false, false, false, false]) 0 rfl (by kernel_rfl) (by kernel_rfl) (by kernel_rfl) (fun _ _ _ h => h) rfl (fun w hS => rv_loadA (by rw [aggT_25, bs8_len, hkl]) rfl (fun j u hu => by rw [Nat.zero_add, Bk.cell hS]; exact hu)) (hS.bk (k := 0) rfl) rfl ?_
          refine WH.take (listed' := #[true, false, true, false, false, false, false, false, false, false, false]) 2 rfl (by kernel_rfl) (by kernel_rfl) (by kernel_rfl) (fun _ _ _ h => h) rfl (fun w _ => PV.rv (pv_move rfl) w) (hS.bk (k := 0) rfl) rfl ?_
          refine WH.take (listed' := #[true, false, true, false, true, false, false, false, false, false, false]) 4 rfl (by kernel_rfl) (by kernel_rfl) (by kernel_rfl) (fun _ _ _ h => h) rfl (fun w _ => PV.rv (pv_move rfl) w) (hS.bk (k := 0) rfl) rfl ?_
          refine WH.one (listed' := #[true, true, true, false, true, false, false, false, false, false, false]) 1 rfl (by kernel_rfl) rfl ?_
          refine WL.build0 hS slT_22 rfl ?_
          intro r28 w hr28 hS
          refine WL.nil ?_
          refine QN.held (hS.bk (k := 1) rfl) ?_
          refine WH.one (listed' := #[true, true, true, true, true, false, false, false, false, false, false]) 3 rfl (by kernel_rfl) rfl ?_
          refine WL.append (k := 0) (N := 65536) hS slT_22 zlenT_5 (by decide) rfl rfl rfl (hi.no hS.fr) bs8_one (by simp [bs8_len]; omega) (by omega) (by simp [maxLen]) rfl ?_
          intro v30 w hFr30 hS
          try simp only [List.set] at hS
          rw [List.nil_append] at hS
          obtain ⟨A3, m3, c3, rfl, _, _, _⟩ := (hS.rw_ (k := 0) rfl).anyForm
          refine WL.nil ?_
          refine QN.held (hS.bk (k := 1) rfl) ?_
          refine WH.one (listed' := #[true, true, true, true, true, true, false, false, false, false, false]) 5 rfl (by kernel_rfl) rfl ?_
          refine WL.call (args := [.tmp 27, .tmp 30, .tmp 31]) cf_32 rfl rfl (expand_c _ _ _ k key info _ hkl (hS.rw_ (k := 0) rfl).rs (by omega) (by omega)) ?_
          rintro _ w ⟨v, rfl, hF, hv⟩
          refine ⟨_, rfl, ?_⟩
          replace hS := hS.no hF
          obtain ⟨Av, mv, cv, rfl, _, _, _, _⟩ := id hv
          have hvl := hv.len
          rw [bs8_len, expandV_len] at hvl
          refine WL.nil ?_
          refine QN.held (hS.bk (k := 1) rfl) ?_
          refine WH.take (listed' := #[true, true, true, true, true, true, true, false, false, false, false]) 6 rfl (by kernel_rfl) (by kernel_rfl) (by kernel_rfl) (fun _ _ _ h => h) rfl (fun w _ => PV.rv (pv_move rfl) w) (hS.bk (k := 1) rfl) rfl ?_
          refine WH.take (listed' := #[true, true, true, true, true, true, true, true, false, false, false]) 7 rfl (by kernel_rfl) (by kernel_rfl) (by kernel_rfl) (fun _ _ _ h => h) rfl (fun w _ => PV.rv (pv_extL rfl rfl) w) (hS.bk (k := 1) rfl) rfl ?_
          refine WH.take (listed' := #[true, true, true, true, true, true, true, true, true, false, false]) 8 rfl (by kernel_rfl) (by kernel_rfl) (by kernel_rfl) (fun _ _ _ h => h) rfl (fun w _ => PV.rv (pv_extL rfl rfl) w) (hS.bk (k := 1) rfl) rfl ?_
          refine WH.take (listed' := #[true, true, true, true, true, true, true, true, true, true, false]) 9 rfl (by kernel_rfl) (by kernel_rfl) (by kernel_rfl) (fun _ _ _ h => h) rfl (fun w _ => PV.rv (pv_assign rfl) w) (hS.bk (k := 1) rfl) rfl ?_
          refine WH.take (listed' := #[true, true, true, true, true, true, true, true, true, true, true]) 10 rfl (by kernel_rfl) (by kernel_rfl) (by kernel_rfl) (fun _ _ _ h => h) rfl (fun w _ => PV.rv (pv_assign rfl) w) (hS.bk (k := 1) rfl) rfl ?_
          refine WH.done (by kernel_rfl) ?_
          refine QN.thenW ?_
          refine WC.seq ?_
          refine WC.region ?_
          refine WL.rv (rv_load_all (k := 1) hS rfl rfl (by rw [aggT_25, bs8_len, hkl])) rfl ?_
          refine WL.pv (pv_move rfl) rfl ?_
          refine WL.pv (pv_move rfl) rfl ?_
          refine WL.call (args := [.tmp 36, .tmp 37, .tmp 38]) cf_33 rfl rfl (refExpand_c _ _ _ k key info _ hkl (hi.no hS.fr) (by omega) (by omega)) ?_
          rintro _ w ⟨v2, rfl, hF, hv2⟩
          refine ⟨_, rfl, ?_⟩
          replace hS := hS.no hF
          replace hv := hv.no hF
          obtain ⟨Au, mu, cu, rfl, _, _, _, _⟩ := id hv2
          refine WL.pv (pv_move rfl) rfl ?_
          refine WL.pv (pv_extL rfl rfl) rfl ?_
          refine WL.pv (pv_extL rfl rfl) rfl ?_
          refine WL.pv (pv_assign rfl) rfl ?_
          refine WL.pv (pv_assign rfl) rfl ?_
          refine WL.nil ?_
          refine QN.thenW ?_
          refine WC.seq ?_
          refine WC.seq ?_
          refine WC.region ?_
          refine WL.pv (pv_move rfl) rfl ?_
          refine WL.pv (pv_move rfl) rfl ?_
          refine WL.call (args := [.tmp 42, .tmp 43]) cf_22 rfl rfl (same_c _ _ _ _ _ _ _ _ _ hv hv2) ?_
          rintro _ w ⟨rfl, hF⟩
          refine ⟨_, rfl, ?_⟩
          replace hS := hS.no hF
          replace hv := hv.no hF
          refine WL.pv (pv_not rfl) rfl ?_
          refine WL.pv (pv_move rfl) rfl ?_
          refine WL.guardT rfl rfl rfl (lkB rfl (by simp)) ?_
          refine WL.pv (pv_move rfl) rfl ?_
          refine WL.guardT rfl rfl rfl (lkB rfl (by simp)) ?_
          refine WL.pv (pv_move rfl) rfl ?_
          refine WL.guardT rfl rfl rfl (lkB rfl (by simp)) ?_
          refine WL.pv (pv_neq rfl rfl) rfl ?_
          refine WL.pv (pv_pick0 (lkB rfl (by simp)) rfl) rfl ?_
          refine WL.nil ?_
          refine QN.thenW ?_
          refine WC.condDF rfl (by omega) ?_
          refine WC.skip ?_
          refine QN.thenW ?_
          refine WC.seq ?_
          refine WC.seq ?_
          refine WC.region ?_
          refine WL.pv (pv_move rfl) rfl ?_
          refine WL.pv (pv_neq rfl rfl) rfl ?_
          refine WL.pv (pv_move rfl) rfl ?_
          refine WL.guardT rfl rfl rfl (lkF rfl (by decide)) ?_
          refine WL.pv (pv_move rfl) rfl ?_
          refine WL.guardT rfl rfl rfl (lkF rfl (by decide)) ?_
          refine WL.pv (pv_eql rfl rfl) rfl ?_
          refine WL.pv (pv_pick0 (lkF rfl (by decide)) rfl) rfl ?_
          refine WL.nil ?_
          refine QN.thenW ?_
          refine WC.condD rfl (fun hc56 => ?_) (fun hc56 => ?_)
          · skip
            refine WC.seq ?_
            refine WC.region ?_
            refine WL.pv (pv_assign rfl) rfl ?_
            refine WL.nil ?_
            refine QN.thenW ?_
            refine WC.ret ?_
            refine QN.thenR ?_
            refine QN.ret1 rfl rfl ?_
            exact ⟨by simp, hS.fr⟩
          · skip
            obtain ⟨q, rfl⟩ : ∃ q : Nat, k = q + 1 := ⟨k - 1, by omega⟩
            refine WC.skip ?_
            refine QN.thenW ?_
            refine WC.seq ?_
            refine WC.region ?_
            refine WL.rv (rv_load_all (k := 1) hS rfl rfl (by rw [aggT_25, bs8_len, hkl])) rfl ?_
            refine WL.pv (pv_move rfl) rfl ?_
            refine WL.pv (pv_move rfl) rfl ?_
            refine WL.pv (pv_subN (a := q + 1) (b := 1) rfl rfl (by omega) (by omega)) rfl ?_
            refine WL.call (args := [.tmp 58, .tmp 59, .tmp 61]) cf_32 rfl rfl (expand_c _ _ _ q key info _ hkl (hi.no hS.fr) (by omega) (by omega)) ?_
            rintro _ w ⟨v3, rfl, hF, hv3⟩
            refine ⟨_, rfl, ?_⟩
            replace hS := hS.no hF
            replace hv := hv.no hF
            obtain ⟨Ac, mc, cc, rfl, _, _, _, _⟩ := id hv3
            refine WL.pv (pv_move rfl) rfl ?_
            refine WL.pv (pv_extL rfl rfl) rfl ?_
            refine WL.pv (pv_extL rfl rfl) rfl ?_
            refine WL.pv (pv_assign rfl) rfl ?_
            refine WL.pv (pv_assign rfl) rfl ?_
            refine WL.nil ?_
            refine QN.thenW ?_
            refine WC.seq ?_
            refine WC.region ?_
            refine WL.pv (pv_move rfl) rfl ?_
            refine WL.pv (pv_eql rfl rfl) rfl ?_
            refine WL.pv (pv_move rfl) rfl ?_
            refine WL.guardT rfl rfl rfl (lkT rfl (by decide)) ?_
            refine WL.pv (pv_move rfl) rfl ?_
            refine WL.guardT rfl rfl rfl (lkT rfl (by decide)) ?_
            refine WL.pv (pv_move rfl) rfl ?_
            refine WL.guardT rfl rfl rfl (lkT rfl (by decide)) ?_
            refine WL.pv (pv_move rfl) rfl ?_
            refine WL.guardT rfl rfl rfl (lkT rfl (by decide)) ?_
            refine WL.pv (pv_subN (a := q + 1) (b := 1) rfl rfl (by omega) (by omega)) rfl ?_
            refine WL.guardT rfl rfl rfl (lkT rfl (by decide)) ?_
            refine WL.pv (pv_sliceH (b := q) slT_22 rfl rfl (by first | rfl | (simp only [bnd]; congr 1; omega)) (by omega)) rfl ?_
            refine WL.guardT rfl rfl rfl (lkT rfl (by decide)) ?_
            refine WL.call (args := [.tmp 68, .tmp 72]) cf_22 rfl rfl (same_c _ _ _ _ _ _ _ _ _ hv3 (hv.cutH8 (b := q) (by omega))) ?_
            rintro _ w ⟨rfl, hF⟩
            refine ⟨_, rfl, ?_⟩
            replace hS := hS.no hF
            rw [expandV_pre _ _ _ _ (by omega)]
            refine WL.pv (pv_pick1 (lkT rfl (by decide)) rfl) rfl ?_
            refine WL.pv (pv_assign rfl) rfl ?_
            refine WL.nil ?_
            refine QN.thenW ?_
            refine WC.ret ?_
            refine QN.ret1 rfl rfl ?_
            exact ⟨by simp, hS.fr⟩
  · skip
    refine WC.region ?_
    refine WL.pv (pv_move rfl) rfl ?_
    refine WL.pv (pv_len slS_22 rfl) rfl ?_
    refine WL.pv (pv_gtr rfl rfl) rfl ?_
    refine WL.pv (pv_move rfl) rfl ?_
    refine WL.guardF rfl rfl rfl (lkT rfl (by omega)) rfl rfl ?_
    refine WL.guardF rfl rfl rfl (lkT rfl (by omega)) rfl rfl ?_
    refine WL.guardF rfl rfl rfl (lkT rfl (by omega)) rfl rfl ?_
    refine WL.guardU rfl rfl rfl rfl rfl rfl ?_
    refine WL.guardU rfl rfl rfl rfl rfl rfl ?_
    refine WL.guardF rfl rfl rfl (lkT rfl (by omega)) rfl rfl ?_
    refine WL.pv (pv_pick1 (lkT rfl (by omega)) rfl) rfl ?_
    refine WL.nil ?_
    refine QN.thenW ?_
    refine WC.condT rfl rfl ?_
    refine WC.seq ?_
    refine WC.region ?_
    refine WL.pv (pv_assign rfl) rfl ?_
    refine WL.nil ?_
    refine QN.thenW ?_
    refine WC.ret ?_
    refine QN.thenR ?_
    refine QN.ret1 rfl rfl ?_
    exact ⟨by simp, hS.fr⟩

end Go.Proofs.Ytjcebkhhgdgohaa
