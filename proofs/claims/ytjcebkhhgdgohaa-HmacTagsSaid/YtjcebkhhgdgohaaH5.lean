/- What a few functions of the program compute, part H5. -/
import Derived.Test.YtjcebkhhgdgohaaH4
import Derived.Test.YtjcebkhhgdgohaaEngT
namespace Go.Proofs.Ytjcebkhhgdgohaa
open Go Go.RowKit Go.Eng


theorem hmac_long (k t : List UInt8) (h : 64 < k.length) : hmacV (shaV k) t = hmacV k t := by
  have e : key0 (shaV k) = key0 k := by rw [key0, key0, if_pos h, if_neg (by rw [shaV_len]; omega)]
  rw [hmacV, hmacV, inP, outP, inP, outP, e]
theorem hmac_pad (k t : List UInt8) (q : Nat) (h : k.length + q ≤ 64) : hmacV (k ++ List.replicate q 0) t = hmacV k t := by
  have e : padK (key0 (k ++ List.replicate q 0)) = padK (key0 k) := by
    rw [key0, key0, if_neg (by simp; omega), if_neg (by omega), padK, padK, List.append_assoc, List.replicate_append_replicate]
    congr 2; simp; omega
  rw [hmacV, hmacV, inP, outP, inP, outP, e]

theorem pv_rem65 {P : Program} {l : Env} {d : Nat} {ty : TypeId} {pos : String} {af : Array Edge} {T U : TypeId} {x y : Operand} {n m q : Nat} (hq : q = n % (65 - m)) (hm : m ≤ 64) (hx : ev l x = some (.int .i64 (n : Int))) (hy : ev l y = some (.int .i64 (65 - (m : Int)))) : PV P l ⟨some d, .binOp .rem T x y U, ty, pos, af, none⟩ (.int .i64 (q : Int)) := by
  subst hq
  rw [show (65 - (m : Int)) = ((65 - m : Nat) : Int) from by omega] at hy
  exact pv_remN hx hy (by omega)

set_option maxRecDepth 100000 in
theorem hmacKeys_c (A B : Option Addr) (m c m2 c2 : Nat) (n : UInt8) (key text : List UInt8) (w0 : World) (hk : Rs w0 (.slice A m c) 1 (bs8 key)) (ht : Rs w0 (.slice B m2 c2) 1 (bs8 text)) : Calls Try.prog 8 #[.slice A m c, .slice B m2 c2, b8 n] w0 fun e w => e = .returned (.bool true) ∧ Fr No w0 w := by
  have hln := hk.len
  rw [bs8_len] at hln
  have hln2 := ht.len
  rw [bs8_len] at hln2
  have hmx : m ≤ 9223372036854775807 := by have := hln; simp only [maxLen] at this; omega
  have hmx2 : m2 ≤ 9223372036854775807 := by have := hln2; simp only [maxLen] at this; omega
  refine calls_of_WC (args := [.slice A m c, .slice B m2 c2, b8 n]) Try.func8 rfl Try.ntmps8 rfl ?_
  show WC _ _ _ _ [(0, .slice A m c), (1, .slice B m2 c2), (2, b8 n)] _
  have hS := ST.start w0 No
  refine WC.seq ?_
  refine WC.region ?_
  refine WL.pv (pv_assign rfl) rfl ?_
  refine WL.nil ?_
  refine QN.thenW ?_
  refine WC.seq ?_
  refine WC.seq ?_
  refine WC.region ?_
  refine WL.call (args := []) cf_25 rfl rfl (wakesH_c _) ?_
  rintro _ w ⟨rfl, hF⟩
  refine ⟨_, rfl, ?_⟩
  replace hS := hS.no hF
  refine WL.pv (pv_not rfl) rfl ?_
  refine WL.nil ?_
  refine QN.thenW ?_
  refine WC.condF rfl rfl ?_
  refine WC.skip ?_
  refine QN.thenW ?_
  refine WC.seq ?_
  refine WC.seq ?_
  by_cases h300 : m ≤ 300
  · skip
    refine WC.region ?_
    refine WL.pv (pv_move rfl) rfl ?_
    refine WL.pv (pv_len slS_22 rfl) rfl ?_
    refine WL.pv (pv_gtr rfl rfl) rfl ?_
    refine WL.pv (pv_move rfl) rfl ?_
    refine WL.guardT rfl rfl rfl (lkF rfl (by omega)) ?_
    refine WL.pv (pv_move rfl) rfl ?_
    refine WL.guardT rfl rfl rfl (lkF rfl (by omega)) ?_
    refine WL.pv (pv_len slS_22 rfl) rfl ?_
    refine WL.guardT rfl rfl rfl (lkF rfl (by omega)) ?_
    refine WL.pv (pv_gtr rfl rfl) rfl ?_
    refine WL.pv (pv_pick0 (lkF rfl (by omega)) rfl) rfl ?_
    refine WL.nil ?_
    refine QN.thenW ?_
    refine WC.condD rfl (fun hc18 => ?_) (fun hc18 => ?_)
    · skip
      refine WC.seq ?_
      refine WC.region ?_
      refine WL.pv (pv_assign rfl) rfl ?_
      refine WL.nil ?_
      refine QN.thenW ?_
      refine WC.ret ?_
      refine QN.thenR ?_
      refine QN.ret1 rfl rfl ?_
      exact ⟨by simp, hS.fr⟩
    · skip
      refine WC.skip ?_
      refine QN.thenW ?_
      refine WC.seq ?_
      refine WC.seq ?_
      refine WC.region ?_
      refine WL.pv (pv_move rfl) rfl ?_
      refine WL.pv (pv_len slS_22 rfl) rfl ?_
      refine WL.pv (pv_gtr rfl rfl) rfl ?_
      refine WL.nil ?_
      refine QN.thenW ?_
      refine WC.condD rfl (fun hc21 => ?_) (fun hc21 => ?_)
      · skip
        refine WC.seq ?_
        refine WC.region ?_
        refine WL.pv (pv_move rfl) rfl ?_
        refine WL.call (args := [.tmp 22]) cf_20 rfl rfl (sum_c A m c key _ (hk.no hS.fr)) ?_
        rintro _ w ⟨rfl, hF⟩
        refine ⟨_, rfl, ?_⟩
        replace hS := hS.no hF
        refine WL.alloc hS zeroT_25 rfl ?_
        intro b7 w hb7 hS
        refine WL.storeAll (k := 0) (vs := bs8 (shaV key)) hS (by rw [sizeT_25, bs8_len, shaV_len]) rfl rfl rfl bs8_one (by simp [bs8_len, shaV_len]) ?_
        intro w hS
        try simp only [List.set] at hS
        refine WL.nil ?_
        refine QN.thenW ?_
        refine WC.seq ?_
        refine WC.region ?_
        refine WL.pv (pv_sliceW arrT_25 rfl) rfl ?_
        refine WL.pv (pv_move rfl) rfl ?_
        refine WL.call (args := [.tmp 24, .tmp 25]) cf_26 rfl rfl (tag_c _ _ _ _ _ _ (shaV key) text _ (Bk.rsAll (hS.bk (k := 0) rfl) (shaV_len _) (by simp [maxLen])) (ht.no hS.fr)) ?_
        rintro _ w ⟨rfl, hF⟩
        refine ⟨_, rfl, ?_⟩
        replace hS := hS.no hF
        rw [hmac_long key text (by omega)]
        refine WL.pv (pv_move rfl) rfl ?_
        refine WL.pv (pv_move rfl) rfl ?_
        refine WL.call (args := [.tmp 27, .tmp 28]) cf_26 rfl rfl (tag_c _ _ _ _ _ _ key text _ (hk.no hS.fr) (ht.no hS.fr)) ?_
        rintro _ w ⟨rfl, hF⟩
        refine ⟨_, rfl, ?_⟩
        replace hS := hS.no hF
        refine WL.pv (pv_eqlA8 Try.underlying25 Try.underlying5 cellsT_5 eqgT_25 rfl rfl (hmacV_len _ _) (hmacV_len _ _)) rfl ?_
        refine WL.pv (pv_assign rfl) rfl ?_
        refine WL.nil ?_
        refine QN.thenW ?_
        refine WC.ret ?_
        refine QN.thenR ?_
        refine QN.ret1 rfl rfl ?_
        exact ⟨by simp, hS.fr⟩
      · skip
        have hq : ∃ q, q = n.toNat % (65 - m) ∧ m + q ≤ 64 := ⟨_, rfl, by have := Nat.mod_lt n.toNat (show 0 < 65 - m by omega); omega⟩
        obtain ⟨q, hqd, hq64⟩ := hq
        refine WC.skip ?_
        refine QN.thenW ?_
        refine WC.seq ?_
        refine WC.draw (S := fun _ => True) (fuel := 11) (listed := #[false, false, false, false, false, false, false, false, false, false, false]) mixedO rfl rfl ?_
        have hS := hS.no (Fr.drew _)
        refine WH.take (listed' := #[false, true, false, false, false, false, false, false, false, false, false]) 1 rfl (by kernel_rfl) (by kernel_rfl) (by kernel_rfl) (fun _ _ _ h => h) rfl (fun w _ => PV.rv (pv_move rfl) w) trivial rfl ?_
        refine WH.take (listed' := #[false, true, false, true, false, false, false, false, false, false, false]) 3 rfl (by kernel_rfl) (by kernel_rfl) (by kernel_rfl) (fun _ _ _ h => h) rfl (fun w _ => PV.rv (pv_move rfl) w) trivial rfl ?_
        refine WH.take (listed' := #[false, true, false, true, true, false, false, false, false, false, false]) 4 rfl (by kernel_rfl) (by kernel_rfl) (by kernel_rfl) (fun _ _ _ h => h) rfl (fun w _ => PV.rv (pv_conv someT_5 Try.underlying3 rfl (cv_8_i _)) w) trivial rfl ?_
        refine WH.take (listed' := #[false, true, false, true, true, true, false, false, false, false, false]) 5 rfl (by kernel_rfl) (by kernel_rfl) (by kernel_rfl) (fun _ _ _ h => h) rfl (fun w _ => PV.rv (pv_move rfl) w) trivial rfl ?_
        refine WH.take (listed' := #[false, true, false, true, true, true, true, false, false, false, false]) 6 rfl (by kernel_rfl) (by kernel_rfl) (by kernel_rfl) (fun _ _ _ h => h) rfl (fun w _ => PV.rv (pv_len slS_22 rfl) w) trivial rfl ?_
        refine WH.take (listed' := #[false, true, false, true, true, true, true, true, false, false, false]) 7 rfl (by kernel_rfl) (by kernel_rfl) (by kernel_rfl) (fun _ _ _ h => h) rfl (fun w _ => PV.rv (pv_sub (a := 65) (b := (m : Int)) rfl rfl (by omega)) w) trivial rfl ?_
        refine WH.take (listed' := #[false, true, false, true, true, true, true, true, true, false, false]) 8 rfl (by kernel_rfl) (by kernel_rfl) (by kernel_rfl) (fun _ _ _ h => h) rfl (fun w _ => PV.rv (pv_rem65 hqd (by omega) rfl rfl) w) trivial rfl ?_
        refine WH.one (listed' := #[true, true, false, true, true, true, true, true, true, false, false]) 0 rfl (by kernel_rfl) rfl ?_
        refine WL.build0 hS slT_22 rfl ?_
        intro r8 w hr8 hS
        refine WL.nil ?_
        refine QN.held trivial ?_
        refine WH.one (listed' := #[true, true, true, true, true, true, true, true, true, false, false]) 2 rfl (by kernel_rfl) rfl ?_
        refine WL.append (k := 0) (N := 65536) hS slT_22 zlenT_5 (by decide) rfl rfl rfl (hk.no hS.fr) bs8_one (by simp [bs8_len]; omega) (by omega) (by simp [maxLen]) rfl ?_
        intro v1 w hFr33 hS
        try simp only [List.set] at hS
        refine WL.nil ?_
        refine QN.held trivial ?_
        refine WH.one (listed' := #[true, true, true, true, true, true, true, true, true, true, false]) 9 rfl (by kernel_rfl) rfl ?_
        refine WL.appendZ (k := 0) (N := 65536) (q := q) hS slT_22 zeroT_5 (by simp) Try.underlying3 (by decide) (by simp [Value.oneCell']) rfl rfl rfl (by simp [bs8_len]; omega) (by omega) (by simp [maxLen]) rfl ?_
        intro v2 w hFr40 hS
        try simp only [List.set] at hS
        rw [List.nil_append, show (List.replicate q [b8 0]).flatten = bs8 (List.replicate q 0) from by simp [bs8], ← bs8_app] at hS
        obtain ⟨A2, m3, c3, rfl, _, _, _⟩ := (hS.rw_ (k := 0) rfl).anyForm
        refine WL.nil ?_
        refine QN.held trivial ?_
        refine WH.take (listed' := #[true, true, true, true, true, true, true, true, true, true, true]) 10 rfl (by kernel_rfl) (by kernel_rfl) (by kernel_rfl) (fun _ _ _ h => h) rfl (fun w _ => PV.rv (pv_assign rfl) w) trivial rfl ?_
        refine WH.done (by kernel_rfl) ?_
        refine QN.thenW ?_
        refine WC.seq ?_
        refine WC.region ?_
        refine WL.pv (pv_move rfl) rfl ?_
        refine WL.pv (pv_move rfl) rfl ?_
        refine WL.call (args := [.tmp 41, .tmp 42]) cf_26 rfl rfl (tag_c _ _ _ _ _ _ (key ++ List.replicate q 0) text _ (hS.rw_ (k := 0) rfl).rs (ht.no hS.fr)) ?_
        rintro _ w ⟨rfl, hF⟩
        refine ⟨_, rfl, ?_⟩
        replace hS := hS.no hF
        rw [hmac_pad key text q (by omega)]
        refine WL.pv (pv_move rfl) rfl ?_
        refine WL.pv (pv_move rfl) rfl ?_
        refine WL.call (args := [.tmp 44, .tmp 45]) cf_26 rfl rfl (tag_c _ _ _ _ _ _ key text _ (hk.no hS.fr) (ht.no hS.fr)) ?_
        rintro _ w ⟨rfl, hF⟩
        refine ⟨_, rfl, ?_⟩
        replace hS := hS.no hF
        refine WL.pv (pv_eqlA8 Try.underlying25 Try.underlying5 cellsT_5 eqgT_25 rfl rfl (hmacV_len _ _) (hmacV_len _ _)) rfl ?_
        refine WL.pv (pv_assign rfl) rfl ?_
        refine WL.nil ?_
        refine QN.thenW ?_
        refine WC.ret ?_
        refine QN.ret1 rfl rfl ?_
        exact ⟨by simp, hS.fr⟩
  · skip
    refine WC.region ?_
    refine WL.pv (pv_move rfl) rfl ?_
    refine WL.pv (pv_len slS_22 rfl) rfl ?_
    refine WL.pv (pv_gtr rfl rfl) rfl ?_
    refine WL.pv (pv_move rfl) rfl ?_
    refine WL.guardF rfl rfl rfl (lkT rfl (by omega)) rfl rfl ?_
    refine WL.guardF rfl rfl rfl (lkT rfl (by omega)) rfl rfl ?_
    refine WL.guardF rfl rfl rfl (lkT rfl (by omega)) rfl rfl ?_
    refine WL.pv (pv_pick1 (lkT rfl (by omega)) rfl) rfl ?_
    refine WL.nil ?_
    refine QN.thenW ?_
    refine WC.condT rfl rfl ?_
    refine WC.seq ?_
    refine WC.region ?_
    refine WL.pv (pv_assign rfl) rfl ?_
    refine WL.nil ?_
    refine QN.thenW ?_
    refine WC.ret ?_
    refine QN.thenR ?_
    refine QN.ret1 rfl rfl ?_
    exact ⟨by simp, hS.fr⟩

end Go.Proofs.Ytjcebkhhgdgohaa
