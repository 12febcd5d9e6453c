/- What a few functions of the program compute, part R4. -/
import Derived.Test.YtjcebkhhgdgohaaR3
namespace Go.Proofs.Ytjcebkhhgdgohaa
open Go Go.RowKit Go.Eng
theorem aggT_137 : aggT Try.prog 137 = some 3 := by kernel_rfl
theorem cf_104 : callable Try.prog 104 = true := by kernel_rfl
theorem cf_105 : callable Try.prog 105 = true := by kernel_rfl
theorem cf_84 : callable Try.prog 84 = true := by kernel_rfl
theorem fvT_162_0 : fvT Try.prog 162 0 = some (0, 1, false) := by kernel_rfl
theorem slS_90 : (slT Try.prog 90).isSome = true := by kernel_rfl
theorem slT_90 : slT Try.prog 90 = some (91, 1, 4) := by kernel_rfl
theorem zeroT_137 : zeroT Try.prog 137 = some (List.replicate 3 (.int .i64 0)) := by kernel_rfl
theorem zeroT_91 : zeroT Try.prog 91 = some ([w32 0]) := by kernel_rfl
theorem zlenT_91 : (zeroT Try.prog 91).map List.length = some 1 := by kernel_rfl

def beginsS : ByteArray := { data := #[54, 97, 48, 57, 101, 54, 54, 55, 98, 98, 54, 55, 97, 101, 56, 53, 51, 99, 54, 101, 102, 51, 55, 50, 97, 53, 52, 102, 102, 53, 51, 97, 53, 49, 48, 101, 53, 50, 55, 102, 57, 98, 48, 53, 54, 56, 56, 99, 49, 102, 56, 51, 100, 57, 97, 98, 53, 98, 101, 48, 99, 100, 49, 57] }
def rndA : ByteArray := { data := ([52, 50, 56, 97, 50, 102, 57, 56, 55, 49, 51, 55, 52, 52, 57, 49, 98, 53, 99, 48, 102, 98, 99, 102, 101, 57, 98, 53, 100, 98, 97, 53, 51, 57, 53, 54, 99, 50, 53, 98, 53, 57, 102, 49, 49, 49, 102, 49, 57, 50, 51, 102, 56, 50, 97, 52, 97, 98, 49, 99, 53, 101, 100, 53].append [100, 56, 48, 55, 97, 97, 57, 56, 49, 50, 56, 51, 53, 98, 48, 49, 50, 52, 51, 49, 56, 53, 98, 101, 53, 53, 48, 99, 55, 100, 99, 51, 55, 50, 98, 101, 53, 100, 55, 52, 56, 48, 100, 101, 98, 49, 102, 101, 57, 98, 100, 99, 48, 54, 97, 55, 99, 49, 57, 98, 102, 49, 55, 52]).toArray }
def rndB : ByteArray := { data := ([101, 52, 57, 98, 54, 57, 99, 49, 101, 102, 98, 101, 52, 55, 56, 54, 48, 102, 99, 49, 57, 100, 99, 54, 50, 52, 48, 99, 97, 49, 99, 99, 50, 100, 101, 57, 50, 99, 54, 102, 52, 97, 55, 52, 56, 52, 97, 97, 53, 99, 98, 48, 97, 57, 100, 99, 55, 54, 102, 57, 56, 56, 100, 97].append [57, 56, 51, 101, 53, 49, 53, 50, 97, 56, 51, 49, 99, 54, 54, 100, 98, 48, 48, 51, 50, 55, 99, 56, 98, 102, 53, 57, 55, 102, 99, 55, 99, 54, 101, 48, 48, 98, 102, 51, 100, 53, 97, 55, 57, 49, 52, 55, 48, 54, 99, 97, 54, 51, 53, 49, 49, 52, 50, 57, 50, 57, 54, 55]).toArray }
def rndC : ByteArray := { data := ([50, 55, 98, 55, 48, 97, 56, 53, 50, 101, 49, 98, 50, 49, 51, 56, 52, 100, 50, 99, 54, 100, 102, 99, 53, 51, 51, 56, 48, 100, 49, 51, 54, 53, 48, 97, 55, 51, 53, 52, 55, 54, 54, 97, 48, 97, 98, 98, 56, 49, 99, 50, 99, 57, 50, 101, 57, 50, 55, 50, 50, 99, 56, 53].append [97, 50, 98, 102, 101, 56, 97, 49, 97, 56, 49, 97, 54, 54, 52, 98, 99, 50, 52, 98, 56, 98, 55, 48, 99, 55, 54, 99, 53, 49, 97, 51, 100, 49, 57, 50, 101, 56, 49, 57, 100, 54, 57, 57, 48, 54, 50, 52, 102, 52, 48, 101, 51, 53, 56, 53, 49, 48, 54, 97, 97, 48, 55, 48]).toArray }
def rndD : ByteArray := { data := ([49, 57, 97, 52, 99, 49, 49, 54, 49, 101, 51, 55, 54, 99, 48, 56, 50, 55, 52, 56, 55, 55, 52, 99, 51, 52, 98, 48, 98, 99, 98, 53, 51, 57, 49, 99, 48, 99, 98, 51, 52, 101, 100, 56, 97, 97, 52, 97, 53, 98, 57, 99, 99, 97, 52, 102, 54, 56, 50, 101, 54, 102, 102, 51].append [55, 52, 56, 102, 56, 50, 101, 101, 55, 56, 97, 53, 54, 51, 54, 102, 56, 52, 99, 56, 55, 56, 49, 52, 56, 99, 99, 55, 48, 50, 48, 56, 57, 48, 98, 101, 102, 102, 102, 97, 97, 52, 53, 48, 54, 99, 101, 98, 98, 101, 102, 57, 97, 51, 102, 55, 99, 54, 55, 49, 55, 56, 102, 50]).toArray }
def roundsS : ByteArray := rndA ++ rndB ++ rndC ++ rndD
theorem rndA_size : rndA.size = 128 := by decide +kernel
theorem rndB_size : rndB.size = 128 := by decide +kernel
theorem rndC_size : rndC.size = 128 := by decide +kernel
theorem rndD_size : rndD.size = 128 := by decide +kernel
theorem roundsS_size : roundsS.size = 512 := by rw [roundsS, ByteArray.size_append, ByteArray.size_append, ByteArray.size_append, rndA_size, rndB_size, rndC_size, rndD_size]
theorem beginsS_size : beginsS.size = 64 := by decide +kernel

set_option maxRecDepth 100000 in
theorem begins_c (w0 : World) : Calls Try.prog 59 #[] w0 fun e w => e = .returned (.string beginsS) ∧ w0 = w := by
  refine calls_of_WC (args := []) Try.func59 rfl Try.ntmps59 rfl ?_
  show WC _ _ _ _ [] _
  have hS := ST.start w0 No
  refine WC.seq ?_
  refine WC.region ?_
  refine WL.pv (pv_assign rfl) rfl ?_
  refine WL.nil ?_
  refine QN.thenW ?_
  refine WC.seq ?_
  refine WC.region ?_
  refine WL.pv (pv_assign rfl) rfl ?_
  refine WL.nil ?_
  refine QN.thenW ?_
  refine WC.ret ?_
  refine QN.ret1 rfl rfl ?_
  exact ⟨rfl, rfl⟩

set_option maxRecDepth 100000 in
theorem rounds_c (w0 : World) : Calls Try.prog 83 #[] w0 fun e w => e = .returned (.string roundsS) ∧ w0 = w := by
  refine calls_of_WC (args := []) Try.func83 rfl Try.ntmps83 rfl ?_
  show WC _ _ _ _ [] _
  have hS := ST.start w0 No
  refine WC.seq ?_
  refine WC.region ?_
  refine WL.pv (pv_assign rfl) rfl ?_
  refine WL.nil ?_
  refine QN.thenW ?_
  refine WC.seq ?_
  refine WC.region ?_
  refine WL.pv (pv_assign rfl) rfl ?_
  refine WL.nil ?_
  refine QN.thenW ?_
  refine WC.seq ?_
  refine WC.region ?_
  refine WL.pv (pv_move rfl) rfl ?_
  refine WL.pv (pv_addStr (a := rndA) (b := rndB) rfl rfl (by rw [rndA_size, rndB_size]; omega)) rfl ?_
  refine WL.pv (pv_assign rfl) rfl ?_
  refine WL.nil ?_
  refine QN.thenW ?_
  refine WC.seq ?_
  refine WC.region ?_
  refine WL.pv (pv_move rfl) rfl ?_
  refine WL.pv (pv_addStr (a := rndA ++ rndB) (b := rndC) rfl rfl (by rw [ByteArray.size_append, rndA_size, rndB_size, rndC_size]; omega)) rfl ?_
  refine WL.pv (pv_assign rfl) rfl ?_
  refine WL.nil ?_
  refine QN.thenW ?_
  refine WC.seq ?_
  refine WC.region ?_
  refine WL.pv (pv_move rfl) rfl ?_
  refine WL.pv (pv_addStr (a := rndA ++ rndB ++ rndC) (b := rndD) rfl rfl (by rw [ByteArray.size_append, ByteArray.size_append, rndA_size, rndB_size, rndC_size, rndD_size]; omega)) rfl ?_
  refine WL.pv (pv_assign rfl) rfl ?_
  refine WL.nil ?_
  refine QN.thenW ?_
  refine WC.seq ?_
  refine WC.region ?_
  refine WL.pv (pv_move rfl) rfl ?_
  refine WL.pv (pv_assign rfl) rfl ?_
  refine WL.nil ?_
  refine QN.thenW ?_
  refine WC.ret ?_
  refine QN.ret1 rfl rfl ?_
  exact ⟨rfl, rfl⟩

set_option maxRecDepth 100000 in
theorem two_c (x : UInt32) (a b c : Nat) (w0 : World) (ha : 0 < a ∧ a < 32) (hb : 0 < b ∧ b < 32) (hc : 0 < c ∧ c < 32) : Calls Try.prog 105 #[w32 x, .agg (int3 a b c).toArray] w0 fun e w => e = .returned (w32 (twoV x a b c)) ∧ Fr No w0 w := by
  refine calls_of_WC (args := [w32 x, .agg (int3 a b c).toArray]) Try.func105 rfl Try.ntmps105 rfl ?_
  show WC _ _ _ _ [(0, w32 x), (1, .agg (int3 a b c).toArray)] _
  have hS := ST.start w0 No
  refine WC.seq ?_
  refine WC.region ?_
  refine WL.box (vs := int3 a b c) hS rfl rfl rfl ?_
  intro b3 w hb3 hS
  refine WL.pv (pv_assign rfl) rfl ?_
  refine WL.nil ?_
  refine QN.thenW ?_
  refine WC.seq ?_
  refine WC.region ?_
  refine WL.pv (pv_move rfl) rfl ?_
  refine WL.pv (pv_indexAddrA1Z (j := 2) arrT_137 rfl rfl rfl (by omega)) rfl ?_
  refine WL.rv (rv_load_blk (k := 0) hS oneT_3 rfl rfl rfl) rfl ?_
  refine WL.pv (pv_sub rfl rfl (by omega)) rfl ?_
  refine WL.pv (pv_conv (n := (((32 - c : Nat)) : Int)) someT_3 Try.underlying164 (by rw [show ((32 - c : Nat) : Int) = 32 - (c : Int) from by omega]; rfl) (cv_u64 (32 - c) (by omega))) rfl ?_
  refine WL.pv (pv_shl32 (c := 32 - c) rfl rfl (by omega)) rfl ?_
  refine WL.pv (pv_assign rfl) rfl ?_
  refine WL.nil ?_
  refine QN.thenW ?_
  refine WC.seq ?_
  refine WC.region ?_
  refine WL.pv (pv_move rfl) rfl ?_
  refine WL.rv (rv_load_all (k := 0) hS rfl rfl (by rw [aggT_137]; rfl)) rfl ?_
  refine WL.call (args := [.tmp 12, .tmp 13]) cf_84 rfl rfl (three_c x a b c _ ha hb hc) ?_
  rintro _ w ⟨rfl, hF⟩
  refine ⟨_, rfl, ?_⟩
  replace hS := hS.no hF
  refine WL.pv (pv_move rfl) rfl ?_
  refine WL.pv (pv_xor32 rfl rfl) rfl ?_
  refine WL.pv (pv_assign rfl) rfl ?_
  refine WL.nil ?_
  refine QN.thenW ?_
  refine WC.ret ?_
  refine QN.ret1 rfl rfl ?_
  exact ⟨rfl, hS.fr⟩


def be32 (bl : List UInt8) (j : Nat) : UInt32 := (numBE ((bl.drop (4 * j)).take 4)).toUInt32
def spreadN (bl : List UInt8) (l : List UInt32) (k : Nat) : UInt32 :=
  if k < 16 then be32 bl k else l.getD (k - 16) 0 + twoV (l.getD (k - 15) 0) 7 18 3 + l.getD (k - 7) 0 + twoV (l.getD (k - 2) 0) 17 19 10
/-- A block's words. -/
def sprL (bl : List UInt8) : Nat → List UInt32
  | 0 => []
  | k + 1 => sprL bl k ++ [spreadN bl (sprL bl k) k]
theorem sprL_len (bl : List UInt8) (k : Nat) : (sprL bl k).length = k := by
  induction k with
  | zero => rfl
  | succ k ih => simp [sprL, ih]

set_option maxHeartbeats 1000000 in
set_option maxRecDepth 100000 in
theorem spread_c (A : Option Addr) (c : Nat) (bl : List UInt8) (w0 : World) (hb : Rs w0 (.slice A 64 c) 1 (bs8 bl)) (hl : bl.length = 64) : Calls Try.prog 82 #[.slice A 64 c] w0 (OwnPost (ws (sprL bl 64)) 91 w0) := by
  refine calls_of_WC (args := [.slice A 64 c]) Try.func82 rfl Try.ntmps82 rfl ?_
  show WC _ _ _ _ [(0, .slice A 64 c)] _
  have hS := ST.start w0 No
  refine WC.seq ?_
  refine WC.region ?_
  refine WL.pv (pv_assign rfl) rfl ?_
  refine WL.nil ?_
  refine QN.thenW ?_
  refine WC.seq ?_
  refine WC.region ?_
  refine WL.pv (pv_assign rfl) rfl ?_
  refine WL.nil ?_
  refine QN.thenW ?_
  refine WC.seq ?_
  refine WC.block ?_
  refine WC.loop (α := Nat × Value) (fun s => [(0, .slice A 64 c), (3, s.2)]) (fun s w => s.1 ≤ 16 ∧ ST w0 No w [.row s.2 91 1 (ws (sprL bl s.1))]) (fun s => 16 - s.1) ((0, .slice none 0 0)) (Sub.cons rfl (Sub.cons rfl Sub.nil)) ⟨by omega, hS.addNil 91 1⟩ ?_
  rintro ⟨k, v⟩ w N hN hR
  change N = 16 - k at hN
  change k ≤ 16 ∧ ST w0 No w [.row v 91 1 (ws (sprL bl k))] at hR
  show WC _ _ _ _ [(0, .slice A 64 c), (3, v)] _
  obtain ⟨hk, hS⟩ := hR
  obtain ⟨A', m, cp, rfl, hm, _, hmx⟩ := (hS.rw_ (k := 0) rfl).anyForm
  rw [ws_len, sprL_len, Nat.mul_one] at hm
  subst hm
  refine WC.seq ?_
  refine WC.seq ?_
  refine WC.region ?_
  refine WL.pv (pv_move rfl) rfl ?_
  refine WL.pv (pv_len slS_90 rfl) rfl ?_
  refine WL.pv (pv_lss rfl rfl) rfl ?_
  refine WL.nil ?_
  refine QN.thenW ?_
  refine WC.condD rfl (fun hc7 => ?_) (fun hc7 => ?_)
  · skip
    have hk16 : k < 16 := by omega
    refine WC.skip ?_
    refine QN.thenW ?_
    refine WC.block ?_
    refine WC.region ?_
    refine WL.pv (pv_move rfl) rfl ?_
    refine WL.pv (pv_move rfl) rfl ?_
    refine WL.pv (pv_move rfl) rfl ?_
    refine WL.pv (pv_len slS_90 rfl) rfl ?_
    refine WL.pv (pv_mul rfl rfl (by omega)) rfl ?_
    refine WL.call (args := [.tmp 9, .tmp 12, .const (.int .i64 4)]) cf_104 rfl rfl (takeNum_c A 64 c (4 * k) 4 bl _ (hb.no hS.fr) (by omega) (by omega) (by omega)) ?_
    rintro _ w ⟨rfl, hF⟩
    refine ⟨_, rfl, ?_⟩
    replace hS := hS.no hF
    refine WL.pv (pv_field1 fvT_162_0 rfl rfl) rfl ?_
    refine WL.pv (pv_conv someT_86 Try.underlying91 rfl (cv_64_32 _)) rfl ?_
    refine WL.build1 hS slT_90 zeroT_91 rfl rfl rfl rfl ?_
    intro b16 w hb16 hS
    refine WL.append (k := 1) (N := 65536) hS slT_90 zlenT_91 (by decide) rfl rfl rfl ((hS.bk (k := 0) rfl).rs 0 1 1 1 (by omega) (by simp [maxLen]) (by simp)) (by simp [Value.oneCell']) (by simp [ws_len, sprL_len]; omega) (by omega) (by simp [maxLen]) rfl ?_
    intro v1 w hFr17 hS
    try simp only [List.set] at hS
    replace hS := hS.erase 0
    simp only [List.eraseIdx_zero, List.tail_cons] at hS
    rw [show List.take (1 * 1) (List.drop 0 [w32 (numBE ((bl.drop (4 * k)).take 4)).toUInt32]) = [w32 (spreadN bl (sprL bl k) k)] from by rw [spreadN, if_pos hk16]; rfl, ws_snoc] at hS
    change ST w0 No w [.row v1 91 1 (ws (sprL bl (k + 1)))] at hS
    refine WL.pv (pv_assign rfl) rfl ?_
    refine WL.nil ?_
    refine QN.blockN ?_
    refine QN.roundE ?_
    refine ⟨((k + 1, v1)), (Sub.cons rfl (Sub.cons rfl Sub.nil)), ⟨by show k + 1 ≤ 16; omega, hS⟩, ?_⟩
    first | omega | (dsimp only; omega)
  · skip
    obtain rfl : k = 16 := by omega
    refine WC.exit ?_
    refine QN.thenX ?_
    refine QN.thenX ?_
    refine QN.blockX ?_
    refine QN.thenW ?_
    refine WC.seq ?_
    refine WC.seq ?_
    refine WC.region ?_
    refine WL.pv (pv_assign rfl) rfl ?_
    refine WL.nil ?_
    refine QN.thenW ?_
    refine WC.block ?_
    refine WC.loop (α := Nat × Value) (fun s => [(3, s.2), (4, .int .i64 (s.1 : Int))]) (fun s w => 16 ≤ s.1 ∧ s.1 ≤ 64 ∧ ST w0 No w [.row s.2 91 1 (ws (sprL bl s.1))]) (fun s => 64 - s.1) ((16, (.slice A' 16 cp))) (Sub.cons rfl (Sub.cons rfl Sub.nil)) ⟨by show 16 ≤ 16; omega, by show 16 ≤ 64; omega, hS⟩ ?_
    rintro ⟨k, v⟩ w N hN hR
    change N = 64 - k at hN
    change 16 ≤ k ∧ k ≤ 64 ∧ ST w0 No w [.row v 91 1 (ws (sprL bl k))] at hR
    show WC _ _ _ _ [(3, v), (4, .int .i64 (k : Int))] _
    obtain ⟨hk0, hk, hS⟩ := hR
    obtain ⟨g, m, cp, rfl, hm, _, hmx⟩ := (hS.rw_ (k := 0) rfl).formW (by rw [sprL_len]; omega)
    rw [sprL_len] at hm
    subst hm
    refine WC.seq ?_
    refine WC.seq ?_
    refine WC.region ?_
    refine WL.pv (pv_move rfl) rfl ?_
    refine WL.pv (pv_lss rfl rfl) rfl ?_
    refine WL.nil ?_
    refine QN.thenW ?_
    refine WC.condD rfl (fun hc19 => ?_) (fun hc19 => ?_)
    · skip
      have hk64 : m < 64 := by omega
      refine WC.skip ?_
      refine QN.thenW ?_
      refine WC.seq ?_
      refine WC.block ?_
      refine WC.draw (S := fun w => ∀ j u, (ws (sprL bl m))[j]? = some u → w.cell? ⟨g, 0 + j, none⟩ = some u) (fuel := 31) (listed := #[false, false, false, false, false, false, false, false, false, false, false, false, false, false, false, false, false, false, false, false, false, false, false, false, false, false, false, false, false, false, false]) mixedO rfl rfl ?_
      have hS := hS.no (Fr.drew _)
      have hC : ∀ j u, (ws (sprL bl m))[j]? = some u → (World.drew w).cell? ⟨g, 0 + j, none⟩ = some u := by
        obtain ⟨b', o', he, _, _, _, h4⟩ := (hS.rw_ (k := 0) rfl).rs.at_ (by rw [ws_len, sprL_len]; omega)
        injection he with he; injection he with e1 e2; subst e1; subst e2
        exact h4
      refine WH.take (listed' := #[true, false, false, false, false, false, false, false, false, false, false, false, false, false, false, false, false, false, false, false, false, false, false, false, false, false, false, false, false, false, false]) 0 rfl (by kernel_rfl) (by kernel_rfl) (by kernel_rfl) (fun _ _ _ h => h) rfl (fun w _ => PV.rv (pv_move rfl) w) hC rfl ?_
      refine WH.take (listed' := #[true, true, false, false, false, false, false, false, false, false, false, false, false, false, false, false, false, false, false, false, false, false, false, false, false, false, false, false, false, false, false]) 1 rfl (by kernel_rfl) (by kernel_rfl) (by kernel_rfl) (fun _ _ _ h => h) rfl (fun w _ => PV.rv (pv_move rfl) w) hC rfl ?_
      refine WH.take (listed' := #[true, true, true, false, false, false, false, false, false, false, false, false, false, false, false, false, false, false, false, false, false, false, false, false, false, false, false, false, false, false, false]) 2 rfl (by kernel_rfl) (by kernel_rfl) (by kernel_rfl) (fun _ _ _ h => h) rfl (fun w _ => PV.rv (pv_move rfl) w) hC rfl ?_
      refine WH.take (listed' := #[true, true, true, true, false, false, false, false, false, false, false, false, false, false, false, false, false, false, false, false, false, false, false, false, false, false, false, false, false, false, false]) 3 rfl (by kernel_rfl) (by kernel_rfl) (by kernel_rfl) (fun _ _ _ h => h) rfl (fun w _ => PV.rv (pv_sub rfl rfl (by omega)) w) hC rfl ?_
      refine WH.take (listed' := #[true, true, true, true, true, false, false, false, false, false, false, false, false, false, false, false, false, false, false, false, false, false, false, false, false, false, false, false, false, false, false]) 4 rfl (by kernel_rfl) (by kernel_rfl) (by kernel_rfl) (fun _ _ _ h => h) rfl (fun w _ => PV.rv (pv_indexAddrS1 (j := m - 16) slT_90 rfl rfl (by omega) (by omega)) w) hC rfl ?_
      refine WH.take (listed' := #[true, true, true, true, true, true, false, false, false, false, false, false, false, false, false, false, false, false, false, false, false, false, false, false, false, false, false, false, false, false, false]) 5 rfl (by kernel_rfl) (by kernel_rfl) (by kernel_rfl) (fun _ _ _ h => h) rfl (fun w hS => rv_load oneT_91 rfl (hS _ _ (ws_atD (by rw [sprL_len]; omega)))) hC rfl ?_
      refine WH.take (listed' := #[true, true, true, true, true, true, true, false, false, false, false, false, false, false, false, false, false, false, false, false, false, false, false, false, false, false, false, false, false, false, false]) 6 rfl (by kernel_rfl) (by kernel_rfl) (by kernel_rfl) (fun _ _ _ h => h) rfl (fun w _ => PV.rv (pv_move rfl) w) hC rfl ?_
      refine WH.take (listed' := #[true, true, true, true, true, true, true, true, false, false, false, false, false, false, false, false, false, false, false, false, false, false, false, false, false, false, false, false, false, false, false]) 7 rfl (by kernel_rfl) (by kernel_rfl) (by kernel_rfl) (fun _ _ _ h => h) rfl (fun w _ => PV.rv (pv_move rfl) w) hC rfl ?_
      refine WH.take (listed' := #[true, true, true, true, true, true, true, true, true, false, false, false, false, false, false, false, false, false, false, false, false, false, false, false, false, false, false, false, false, false, false]) 8 rfl (by kernel_rfl) (by kernel_rfl) (by kernel_rfl) (fun _ _ _ h => h) rfl (fun w _ => PV.rv (pv_sub rfl rfl (by omega)) w) hC rfl ?_
      refine WH.take (listed' := #[true, true, true, true, true, true, true, true, true, true, false, false, false, false, false, false, false, false, false, false, false, false, false, false, false, false, false, false, false, false, false]) 9 rfl (by kernel_rfl) (by kernel_rfl) (by kernel_rfl) (fun _ _ _ h => h) rfl (fun w _ => PV.rv (pv_indexAddrS1 (j := m - 15) slT_90 rfl rfl (by omega) (by omega)) w) hC rfl ?_
      refine WH.take (listed' := #[true, true, true, true, true, true, true, true, true, true, true, false, false, false, false, false, false, false, false, false, false, false, false, false, false, false, false, false, false, false, false]) 10 rfl (by kernel_rfl) (by kernel_rfl) (by kernel_rfl) (fun _ _ _ h => h) rfl (fun w hS => rv_load oneT_91 rfl (hS _ _ (ws_atD (by rw [sprL_len]; omega)))) hC rfl ?_
      refine WH.take (listed' := #[true, true, true, true, true, true, true, true, true, true, true, true, false, false, false, false, false, false, false, false, false, false, false, false, false, false, false, false, false, false, false]) 11 rfl (by kernel_rfl) (by kernel_rfl) (by kernel_rfl) (fun _ _ _ h => h) rfl (fun w _ => PV.rv (pv_buildA (parts := [(0, .const (.int .i64 7)), (1, .const (.int .i64 18)), (2, .const (.int .i64 3))]) (cells := int3 7 18 3) arrT_137 zeroT_137 rfl rfl) w) hC rfl ?_
      refine WH.take (listed' := #[true, true, true, true, true, true, true, true, true, true, true, true, false, false, true, false, false, false, false, false, false, false, false, false, false, false, false, false, false, false, false]) 14 rfl (by kernel_rfl) (by kernel_rfl) (by kernel_rfl) (fun _ _ _ h => h) rfl (fun w _ => PV.rv (pv_move rfl) w) hC rfl ?_
      refine WH.take (listed' := #[true, true, true, true, true, true, true, true, true, true, true, true, false, false, true, true, false, false, false, false, false, false, false, false, false, false, false, false, false, false, false]) 15 rfl (by kernel_rfl) (by kernel_rfl) (by kernel_rfl) (fun _ _ _ h => h) rfl (fun w _ => PV.rv (pv_move rfl) w) hC rfl ?_
      refine WH.take (listed' := #[true, true, true, true, true, true, true, true, true, true, true, true, false, false, true, true, true, false, false, false, false, false, false, false, false, false, false, false, false, false, false]) 16 rfl (by kernel_rfl) (by kernel_rfl) (by kernel_rfl) (fun _ _ _ h => h) rfl (fun w _ => PV.rv (pv_sub rfl rfl (by omega)) w) hC rfl ?_
      refine WH.take (listed' := #[true, true, true, true, true, true, true, true, true, true, true, true, false, false, true, true, true, true, false, false, false, false, false, false, false, false, false, false, false, false, false]) 17 rfl (by kernel_rfl) (by kernel_rfl) (by kernel_rfl) (fun _ _ _ h => h) rfl (fun w _ => PV.rv (pv_indexAddrS1 (j := m - 7) slT_90 rfl rfl (by omega) (by omega)) w) hC rfl ?_
      refine WH.take (listed' := #[true, true, true, true, true, true, true, true, true, true, true, true, false, false, true, true, true, true, true, false, false, false, false, false, false, false, false, false, false, false, false]) 18 rfl (by kernel_rfl) (by kernel_rfl) (by kernel_rfl) (fun _ _ _ h => h) rfl (fun w hS => rv_load oneT_91 rfl (hS _ _ (ws_atD (by rw [sprL_len]; omega)))) hC rfl ?_
      refine WH.take (listed' := #[true, true, true, true, true, true, true, true, true, true, true, true, false, false, true, true, true, true, true, false, true, false, false, false, false, false, false, false, false, false, false]) 20 rfl (by kernel_rfl) (by kernel_rfl) (by kernel_rfl) (fun _ _ _ h => h) rfl (fun w _ => PV.rv (pv_move rfl) w) hC rfl ?_
      refine WH.take (listed' := #[true, true, true, true, true, true, true, true, true, true, true, true, false, false, true, true, true, true, true, false, true, true, false, false, false, false, false, false, false, false, false]) 21 rfl (by kernel_rfl) (by kernel_rfl) (by kernel_rfl) (fun _ _ _ h => h) rfl (fun w _ => PV.rv (pv_move rfl) w) hC rfl ?_
      refine WH.take (listed' := #[true, true, true, true, true, true, true, true, true, true, true, true, false, false, true, true, true, true, true, false, true, true, true, false, false, false, false, false, false, false, false]) 22 rfl (by kernel_rfl) (by kernel_rfl) (by kernel_rfl) (fun _ _ _ h => h) rfl (fun w _ => PV.rv (pv_sub rfl rfl (by omega)) w) hC rfl ?_
      refine WH.take (listed' := #[true, true, true, true, true, true, true, true, true, true, true, true, false, false, true, true, true, true, true, false, true, true, true, true, false, false, false, false, false, false, false]) 23 rfl (by kernel_rfl) (by kernel_rfl) (by kernel_rfl) (fun _ _ _ h => h) rfl (fun w _ => PV.rv (pv_indexAddrS1 (j := m - 2) slT_90 rfl rfl (by omega) (by omega)) w) hC rfl ?_
      refine WH.take (listed' := #[true, true, true, true, true, true, true, true, true, true, true, true, false, false, true, true, true, true, true, false, true, true, true, true, true, false, false, false, false, false, false]) 24 rfl (by kernel_rfl) (by kernel_rfl) (by kernel_rfl) (fun _ _ _ h => h) rfl (fun w hS => rv_load oneT_91 rfl (hS _ _ (ws_atD (by rw [sprL_len]; omega)))) hC rfl ?_
      refine WH.take (listed' := #[true, true, true, true, true, true, true, true, true, true, true, true, false, false, true, true, true, true, true, false, true, true, true, true, true, true, false, false, false, false, false]) 25 rfl (by kernel_rfl) (by kernel_rfl) (by kernel_rfl) (fun _ _ _ h => h) rfl (fun w _ => PV.rv (pv_buildA (parts := [(0, .const (.int .i64 17)), (1, .const (.int .i64 19)), (2, .const (.int .i64 10))]) (cells := int3 17 19 10) arrT_137 zeroT_137 rfl rfl) w) hC rfl ?_
      refine WH.one (listed' := #[true, true, true, true, true, true, true, true, true, true, true, true, true, false, true, true, true, true, true, false, true, true, true, true, true, true, false, false, false, false, false]) 12 rfl (by kernel_rfl) rfl ?_
      refine WL.call (args := [.tmp 32, .tmp 33]) cf_105 rfl rfl (two_c _ 7 18 3 _ (by decide) (by decide) (by decide)) ?_
      rintro _ w ⟨rfl, hF⟩
      refine ⟨_, rfl, ?_⟩
      replace hS := hS.no hF
      replace hC : ∀ j u, (ws (sprL bl m))[j]? = some u → w.cell? ⟨g, 0 + j, none⟩ = some u := fun j u hu => hF.cellS (hC j u hu) (fun h => h)
      refine WL.nil ?_
      refine QN.held hC ?_
      refine WH.take (listed' := #[true, true, true, true, true, true, true, true, true, true, true, true, true, true, true, true, true, true, true, false, true, true, true, true, true, true, false, false, false, false, false]) 13 rfl (by kernel_rfl) (by kernel_rfl) (by kernel_rfl) (fun _ _ _ h => h) rfl (fun w _ => PV.rv (pv_add32 rfl rfl) w) hC rfl ?_
      refine WH.take (listed' := #[true, true, true, true, true, true, true, true, true, true, true, true, true, true, true, true, true, true, true, true, true, true, true, true, true, true, false, false, false, false, false]) 19 rfl (by kernel_rfl) (by kernel_rfl) (by kernel_rfl) (fun _ _ _ h => h) rfl (fun w _ => PV.rv (pv_add32 rfl rfl) w) hC rfl ?_
      refine WH.one (listed' := #[true, true, true, true, true, true, true, true, true, true, true, true, true, true, true, true, true, true, true, true, true, true, true, true, true, true, true, false, false, false, false]) 26 rfl (by kernel_rfl) rfl ?_
      refine WL.call (args := [.tmp 46, .tmp 47]) cf_105 rfl rfl (two_c _ 17 19 10 _ (by decide) (by decide) (by decide)) ?_
      rintro _ w ⟨rfl, hF⟩
      refine ⟨_, rfl, ?_⟩
      replace hS := hS.no hF
      replace hC : ∀ j u, (ws (sprL bl m))[j]? = some u → w.cell? ⟨g, 0 + j, none⟩ = some u := fun j u hu => hF.cellS (hC j u hu) (fun h => h)
      refine WL.nil ?_
      refine QN.held hC ?_
      refine WH.take (listed' := #[true, true, true, true, true, true, true, true, true, true, true, true, true, true, true, true, true, true, true, true, true, true, true, true, true, true, true, true, false, false, false]) 27 rfl (by kernel_rfl) (by kernel_rfl) (by kernel_rfl) (fun _ _ _ h => h) rfl (fun w _ => PV.rv (pv_add32 rfl rfl) w) hC rfl ?_
      refine WH.one (listed' := #[true, true, true, true, true, true, true, true, true, true, true, true, true, true, true, true, true, true, true, true, true, true, true, true, true, true, true, true, true, false, false]) 28 rfl (by kernel_rfl) rfl ?_
      refine WL.build1 hS slT_90 zeroT_91 rfl rfl rfl rfl ?_
      intro b50 w hb50 hS
      replace hC : ∀ j u, (ws (sprL bl m))[j]? = some u → w.cell? ⟨g, 0 + j, none⟩ = some u := by
        obtain ⟨b', o', he, _, _, _, h4⟩ := (hS.rw_ (k := 1) rfl).rs.at_ (by rw [ws_len, sprL_len]; omega)
        injection he with he; injection he with e1 e2; subst e1; subst e2
        exact h4
      refine WL.nil ?_
      refine QN.held hC ?_
      refine WH.one (listed' := #[true, true, true, true, true, true, true, true, true, true, true, true, true, true, true, true, true, true, true, true, true, true, true, true, true, true, true, true, true, true, false]) 29 rfl (by kernel_rfl) rfl ?_
      refine WL.appendK (k := 1) (N := 65536) hS slT_90 zlenT_91 (by decide) rfl rfl rfl ((hS.bk (k := 0) rfl).rs 0 1 1 1 (by omega) (by simp [maxLen]) (by simp)) (by simp [Value.oneCell']) (by simp [ws_len, sprL_len]; omega) (by omega) (by simp [maxLen]) rfl ?_
      intro v1 w hFr51 hS hkp
      try simp only [List.set] at hS
      replace hC : ∀ j u, (ws (sprL bl m))[j]? = some u → w.cell? ⟨g, 0 + j, none⟩ = some u := by
        obtain ⟨b', o', he, _, _, _, h4⟩ := hkp.at_ (by rw [ws_len, sprL_len]; omega)
        injection he with he; injection he with e1 e2; subst e1; subst e2
        exact h4
      replace hS := hS.erase 0
      simp only [List.eraseIdx_zero, List.tail_cons] at hS
      rw [show List.take (1 * 1) (List.drop 0 [w32 ((sprL bl m).getD (m - 16) 0 + twoV ((sprL bl m).getD (m - 15) 0) 7 18 3 + (sprL bl m).getD (m - 7) 0 + twoV ((sprL bl m).getD (m - 2) 0) 17 19 10)]) = [w32 (spreadN bl (sprL bl m) m)] from by rw [spreadN, if_neg (by omega)]; rfl, ws_snoc] at hS
      change ST w0 No w [.row v1 91 1 (ws (sprL bl (m + 1)))] at hS
      refine WL.nil ?_
      refine QN.held hC ?_
      refine WH.take (listed' := #[true, true, true, true, true, true, true, true, true, true, true, true, true, true, true, true, true, true, true, true, true, true, true, true, true, true, true, true, true, true, true]) 30 rfl (by kernel_rfl) (by kernel_rfl) (by kernel_rfl) (fun _ _ _ h => h) rfl (fun w _ => PV.rv (pv_assign rfl) w) hC rfl ?_
      refine WH.done (by kernel_rfl) ?_
      refine QN.blockN ?_
      refine QN.thenW ?_
      refine WC.region ?_
      refine WL.pv (pv_move rfl) rfl ?_
      refine WL.pv (pv_add rfl rfl (by omega)) rfl ?_
      refine WL.pv (pv_assign rfl) rfl ?_
      refine WL.nil ?_
      refine QN.roundE ?_
      refine ⟨((m + 1, v1)), (Sub.cons rfl (Sub.cons rfl Sub.nil)), ⟨by show 16 ≤ m + 1; omega, by show m + 1 ≤ 64; omega, hS⟩, ?_⟩
      first | omega | (dsimp only; omega)
    · skip
      obtain rfl : m = 64 := by omega
      refine WC.exit ?_
      refine QN.thenX ?_
      refine QN.thenX ?_
      refine QN.blockX ?_
      refine QN.thenW ?_
      refine WC.seq ?_
      refine WC.region ?_
      refine WL.pv (pv_move rfl) rfl ?_
      refine WL.pv (pv_assign rfl) rfl ?_
      refine WL.nil ?_
      refine QN.thenW ?_
      refine WC.ret ?_
      refine QN.ret1 rfl rfl ?_
      exact ⟨_, rfl, hS.fr, hS.rw_ (k := 0) rfl, fun b hb => (hS.own' (i := 0) rfl hb).resolve_right (fun h => h)⟩

end Go.Proofs.Ytjcebkhhgdgohaa
