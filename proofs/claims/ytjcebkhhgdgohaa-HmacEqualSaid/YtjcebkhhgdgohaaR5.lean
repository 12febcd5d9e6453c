/- What a few functions of the program compute, part R5. -/
import Derived.Test.YtjcebkhhgdgohaaR4
namespace Go.Proofs.Ytjcebkhhgdgohaa
open Go Go.RowKit Go.Eng
theorem cf_58 : callable Try.prog 58 = true := by kernel_rfl
theorem cf_61 : callable Try.prog 61 = true := by kernel_rfl
theorem cf_82 : callable Try.prog 82 = true := by kernel_rfl
theorem cf_83 : callable Try.prog 83 = true := by kernel_rfl

/-- Two rows of words that stand while calls run. -/
def Held (g o : Nat) (V : List UInt32) (g5 : Nat) (W : List UInt32) (w : World) : Prop :=
  (∀ j u, (ws V)[j]? = some u → w.cell? ⟨g, o + j, none⟩ = some u) ∧ ∀ j u, (ws W)[j]? = some u → w.cell? ⟨g5, 0 + j, none⟩ = some u
theorem Held.no {g o : Nat} {V : List UInt32} {g5 : Nat} {W : List UInt32} {w w' : World} (h : Held g o V g5 W w) (hF : Fr No w w') : Held g o V g5 W w' :=
  ⟨fun j u hu => hF.cellS (h.1 j u hu) (fun h => h), fun j u hu => hF.cellS (h.2 j u hu) (fun h => h)⟩
def choiceR (a b c : UInt32) : UInt32 := a &&& b ||| (4294967295 - a) &&& c
def mostR (a b c : UInt32) : UInt32 := a &&& b ||| a &&& c ||| b &&& c
def xR (V : List UInt32) (kn wn : UInt32) : UInt32 := V.getD 7 0 + threeV (V.getD 4 0) 6 11 25 + choiceR (V.getD 4 0) (V.getD 5 0) (V.getD 6 0) + kn + wn
def stepR (V : List UInt32) (kn wn : UInt32) : List UInt32 :=
  [xR V kn wn + threeV (V.getD 0 0) 2 13 22 + mostR (V.getD 0 0) (V.getD 1 0) (V.getD 2 0)] ++ V.take 3 ++ [V.getD 3 0 + xR V kn wn] ++ (V.drop 4).take 3
def rndR (f W : List UInt32) : Nat → List UInt32
  | 0 => f
  | n + 1 => stepR (rndR f W n) (hexW roundsS n) (W.getD n 0)
theorem rndR_len (f W : List UInt32) (hf : f.length = 8) (n : Nat) : (rndR f W n).length = 8 := by
  induction n with
  | zero => exact hf
  | succ n ih => simp [rndR, stepR, ih]
def outR (f V : List UInt32) (k : Nat) : List UInt32 := (List.range k).map fun i => f.getD i 0 + V.getD i 0
theorem outR_succ (f V : List UInt32) (k : Nat) : outR f V (k + 1) = outR f V k ++ [f.getD k 0 + V.getD k 0] := by simp [outR, List.range_succ]
theorem outR_len (f V : List UInt32) (k : Nat) : (outR f V k).length = k := by simp [outR]
/-- Eight words behind a block, by the document. -/
def behL (f : List UInt32) (bl : List UInt8) : List UInt32 := outR f (rndR f (sprL bl 64) 64) 8

set_option maxHeartbeats 1000000 in
set_option maxRecDepth 100000 in
theorem behind_c (gf of_ cf : Nat) (A : Option Addr) (c : Nat) (f : List UInt32) (bl : List UInt8) (w0 : World) (hf : Rs w0 (.slice (some ⟨gf, of_, none⟩) 8 cf) 1 (ws f)) (hfl : f.length = 8) (hb : Rs w0 (.slice A 64 c) 1 (bs8 bl)) (hbl : bl.length = 64) :
    Calls Try.prog 60 #[.slice (some ⟨gf, of_, none⟩) 8 cf, .slice A 64 c] w0 (OwnPost (ws (behL f bl)) 91 w0) := by
  obtain ⟨gf', of', hef, _, _, _, hfc⟩ := hf.at_ (by rw [ws_len]; omega)
  injection hef with hef; injection hef with e1 e2; subst e1; subst e2
  refine calls_of_WC (args := [.slice (some ⟨gf, of_, none⟩) 8 cf, .slice A 64 c]) Try.func60 rfl Try.ntmps60 rfl ?_
  show WC _ _ _ _ [(0, .slice (some ⟨gf, of_, none⟩) 8 cf), (1, .slice A 64 c)] _
  have hS := ST.start w0 No
  refine WC.seq ?_
  refine WC.region ?_
  refine WL.pv (pv_assign rfl) rfl ?_
  refine WL.nil ?_
  refine QN.thenW ?_
  refine WC.seq ?_
  refine WC.region ?_
  refine WL.pv (pv_move rfl) rfl ?_
  refine WL.call (args := [.tmp 15]) cf_82 rfl rfl (spread_c A c bl _ (hb.no hS.fr) hbl) ?_
  rintro _ w ⟨sv, rfl, hF, hsvR, hsvf⟩
  refine ⟨_, rfl, ?_⟩
  replace hS := hS.add (e := .row sv 91 1 (ws (sprL bl 64))) hF hsvR hsvf
  obtain ⟨g5, m5, c5, rfl, hm5, _, _⟩ := hsvR.formW (by rw [sprL_len]; omega)
  rw [sprL_len] at hm5
  subst hm5
  refine WL.pv (pv_assign rfl) rfl ?_
  refine WL.nil ?_
  refine QN.thenW ?_
  refine WC.seq ?_
  refine WC.region ?_
  refine WL.call (args := []) cf_83 rfl rfl (rounds_c _) ?_
  rintro _ w ⟨rfl, rfl⟩
  refine ⟨_, rfl, ?_⟩
  refine WL.pv (pv_assign rfl) rfl ?_
  refine WL.nil ?_
  refine QN.thenW ?_
  refine WC.seq ?_
  refine WC.region ?_
  refine WL.pv (pv_move rfl) rfl ?_
  refine WL.pv (pv_assign rfl) rfl ?_
  refine WL.nil ?_
  refine QN.thenW ?_
  refine WC.seq ?_
  refine WC.seq ?_
  refine WC.region ?_
  refine WL.pv (pv_assign rfl) rfl ?_
  refine WL.nil ?_
  refine QN.thenW ?_
  refine WC.block ?_
  refine WC.loop (α := Nat × Value) (fun s => [(0, .slice (some ⟨gf, of_, none⟩) 8 cf), (5, .slice (some ⟨g5, 0, none⟩) 64 c5), (6, .string roundsS), (7, s.2), (8, .int .i64 (s.1 : Int))]) (fun s w => s.1 ≤ 64 ∧ Fr No w0 w ∧ Rs w (.slice (some ⟨g5, 0, none⟩) 64 c5) 1 (ws (sprL bl 64)) ∧ Rs w s.2 1 (ws (rndR f (sprL bl 64) s.1))) (fun s => 64 - s.1) ((0, .slice (some ⟨gf, of_, none⟩) 8 cf)) (Sub.cons rfl (Sub.cons rfl (Sub.cons rfl (Sub.cons rfl (Sub.cons rfl Sub.nil))))) ⟨by show 0 ≤ 64; omega, hS.fr, (hS.rw_ (k := 0) rfl).rs, hf.no hS.fr⟩ ?_
  rintro ⟨n, v⟩ w N hN hR
  change N = 64 - n at hN
  change n ≤ 64 ∧ Fr No w0 w ∧ Rs w (.slice (some ⟨g5, 0, none⟩) 64 c5) 1 (ws (sprL bl 64)) ∧ Rs w v 1 (ws (rndR f (sprL bl 64) n)) at hR
  show WC _ _ _ _ [(0, .slice (some ⟨gf, of_, none⟩) 8 cf), (5, .slice (some ⟨g5, 0, none⟩) 64 c5), (6, .string roundsS), (7, v), (8, .int .i64 (n : Int))] _
  obtain ⟨hn, hF0, hsv, hv⟩ := hR
  have hlen := rndR_len f (sprL bl 64) hfl n
  obtain ⟨A', m', cv, rfl, _, _, _, _⟩ := id hv
  obtain ⟨g, o, rfl, hl8, hc1, hc2, hC⟩ := hv.at_ (by rw [ws_len]; omega)
  rw [ws_len, hlen] at hl8
  obtain rfl : m' = 8 := by omega
  obtain ⟨g5', o5', he5, _, _, _, hD⟩ := hsv.at_ (by rw [ws_len, sprL_len]; omega)
  injection he5 with he5; injection he5 with e1 e2; subst e1; subst e2
  have hWl := sprL_len bl 64
  generalize hWW : sprL bl 64 = WW at hsv hD hWl hv hlen hC
  generalize hVV : rndR f WW n = VV at hv hlen hC
  have hS := (ST.start w No).addNil 91 1
  refine WC.seq ?_
  refine WC.seq ?_
  refine WC.region ?_
  refine WL.pv (pv_move rfl) rfl ?_
  refine WL.pv (pv_lss rfl rfl) rfl ?_
  refine WL.nil ?_
  refine QN.thenW ?_
  refine WC.condD rfl (fun hc20 => ?_) (fun hc20 => ?_)
  · skip
    have hn64 : n < 64 := by omega
    refine WC.skip ?_
    refine QN.thenW ?_
    refine WC.seq ?_
    refine WC.block ?_
    refine WC.seq ?_
    refine WC.still mixedO (by kernel_rfl) ?_
    have hS := hS.no (Fr.drew _)
    refine WS.pv (pv_move rfl) rfl ?_
    refine WS.pv (pv_indexAddrS1 (j := 4) slT_90 rfl rfl rfl (by omega)) rfl ?_
    refine WS.rv (rv_load oneT_91 rfl (hS.fr.cellS (hC 4 _ (ws_atD (by omega))) (fun h => h))) rfl ?_
    refine WS.pv (pv_move rfl) rfl ?_
    refine WS.pv (pv_indexAddrS1 (j := 5) slT_90 rfl rfl rfl (by omega)) rfl ?_
    refine WS.rv (rv_load oneT_91 rfl (hS.fr.cellS (hC 5 _ (ws_atD (by omega))) (fun h => h))) rfl ?_
    refine WS.pv (pv_and32 rfl rfl) rfl ?_
    refine WS.pv (pv_move rfl) rfl ?_
    refine WS.pv (pv_indexAddrS1 (j := 4) slT_90 rfl rfl rfl (by omega)) rfl ?_
    refine WS.rv (rv_load oneT_91 rfl (hS.fr.cellS (hC 4 _ (ws_atD (by omega))) (fun h => h))) rfl ?_
    refine WS.pv (pv_sub32 (a := 4294967295) rfl rfl) rfl ?_
    refine WS.pv (pv_move rfl) rfl ?_
    refine WS.pv (pv_indexAddrS1 (j := 6) slT_90 rfl rfl rfl (by omega)) rfl ?_
    refine WS.rv (rv_load oneT_91 rfl (hS.fr.cellS (hC 6 _ (ws_atD (by omega))) (fun h => h))) rfl ?_
    refine WS.pv (pv_and32 rfl rfl) rfl ?_
    refine WS.pv (pv_or32 rfl rfl) rfl ?_
    refine WS.pv (pv_assign rfl) rfl ?_
    refine WS.done ?_
    refine QN.thenW ?_
    refine WC.seq ?_
    refine WC.still mixedO (by kernel_rfl) ?_
    have hS := hS.no (Fr.drew _)
    refine WS.pv (pv_move rfl) rfl ?_
    refine WS.pv (pv_indexAddrS1 (j := 0) slT_90 rfl rfl rfl (by omega)) rfl ?_
    refine WS.rv (rv_load oneT_91 rfl (hS.fr.cellS (hC 0 _ (ws_atD (by omega))) (fun h => h))) rfl ?_
    refine WS.pv (pv_move rfl) rfl ?_
    refine WS.pv (pv_indexAddrS1 (j := 1) slT_90 rfl rfl rfl (by omega)) rfl ?_
    refine WS.rv (rv_load oneT_91 rfl (hS.fr.cellS (hC 1 _ (ws_atD (by omega))) (fun h => h))) rfl ?_
    refine WS.pv (pv_and32 rfl rfl) rfl ?_
    refine WS.pv (pv_move rfl) rfl ?_
    refine WS.pv (pv_indexAddrS1 (j := 0) slT_90 rfl rfl rfl (by omega)) rfl ?_
    refine WS.rv (rv_load oneT_91 rfl (hS.fr.cellS (hC 0 _ (ws_atD (by omega))) (fun h => h))) rfl ?_
    refine WS.pv (pv_move rfl) rfl ?_
    refine WS.pv (pv_indexAddrS1 (j := 2) slT_90 rfl rfl rfl (by omega)) rfl ?_
    refine WS.rv (rv_load oneT_91 rfl (hS.fr.cellS (hC 2 _ (ws_atD (by omega))) (fun h => h))) rfl ?_
    refine WS.pv (pv_and32 rfl rfl) rfl ?_
    refine WS.pv (pv_or32 rfl rfl) rfl ?_
    refine WS.pv (pv_move rfl) rfl ?_
    refine WS.pv (pv_indexAddrS1 (j := 1) slT_90 rfl rfl rfl (by omega)) rfl ?_
    refine WS.rv (rv_load oneT_91 rfl (hS.fr.cellS (hC 1 _ (ws_atD (by omega))) (fun h => h))) rfl ?_
    refine WS.pv (pv_move rfl) rfl ?_
    refine WS.pv (pv_indexAddrS1 (j := 2) slT_90 rfl rfl rfl (by omega)) rfl ?_
    refine WS.rv (rv_load oneT_91 rfl (hS.fr.cellS (hC 2 _ (ws_atD (by omega))) (fun h => h))) rfl ?_
    refine WS.pv (pv_and32 rfl rfl) rfl ?_
    refine WS.pv (pv_or32 rfl rfl) rfl ?_
    refine WS.pv (pv_assign rfl) rfl ?_
    refine WS.done ?_
    refine QN.thenW ?_
    refine WC.seq ?_
    refine WC.draw (S := Held g o VV g5 WW) (fuel := 21) (listed := #[false, false, false, false, false, false, false, false, false, false, false, false, false, false, false, false, false, false, false, false, false]) mixedO rfl rfl ?_
    have hS := hS.no (Fr.drew _)
    have hH : Held g o VV g5 WW (World.drew _) := ⟨fun j u hu => hS.fr.cellS (hC j u hu) (fun h => h), fun j u hu => hS.fr.cellS (hD j u hu) (fun h => h)⟩
    refine WH.take (listed' := #[true, false, false, false, false, false, false, false, false, false, false, false, false, false, false, false, false, false, false, false, false]) 0 rfl (by kernel_rfl) (by kernel_rfl) (by kernel_rfl) (fun _ _ _ h => h) rfl (fun w _ => PV.rv (pv_move rfl) w) hH rfl ?_
    refine WH.take (listed' := #[true, true, false, false, false, false, false, false, false, false, false, false, false, false, false, false, false, false, false, false, false]) 1 rfl (by kernel_rfl) (by kernel_rfl) (by kernel_rfl) (fun _ _ _ h => h) rfl (fun w _ => PV.rv (pv_indexAddrS1 (j := 7) slT_90 rfl rfl rfl (by omega)) w) hH rfl ?_
    refine WH.take (listed' := #[true, true, true, false, false, false, false, false, false, false, false, false, false, false, false, false, false, false, false, false, false]) 2 rfl (by kernel_rfl) (by kernel_rfl) (by kernel_rfl) (fun _ _ _ h => h) rfl (fun w hS => rv_load oneT_91 rfl (hS.1 _ _ (ws_atD (by omega)))) hH rfl ?_
    refine WH.take (listed' := #[true, true, true, true, false, false, false, false, false, false, false, false, false, false, false, false, false, false, false, false, false]) 3 rfl (by kernel_rfl) (by kernel_rfl) (by kernel_rfl) (fun _ _ _ h => h) rfl (fun w _ => PV.rv (pv_move rfl) w) hH rfl ?_
    refine WH.take (listed' := #[true, true, true, true, true, false, false, false, false, false, false, false, false, false, false, false, false, false, false, false, false]) 4 rfl (by kernel_rfl) (by kernel_rfl) (by kernel_rfl) (fun _ _ _ h => h) rfl (fun w _ => PV.rv (pv_indexAddrS1 (j := 4) slT_90 rfl rfl rfl (by omega)) w) hH rfl ?_
    refine WH.take (listed' := #[true, true, true, true, true, true, false, false, false, false, false, false, false, false, false, false, false, false, false, false, false]) 5 rfl (by kernel_rfl) (by kernel_rfl) (by kernel_rfl) (fun _ _ _ h => h) rfl (fun w hS => rv_load oneT_91 rfl (hS.1 _ _ (ws_atD (by omega)))) hH rfl ?_
    refine WH.take (listed' := #[true, true, true, true, true, true, true, false, false, false, false, false, false, false, false, false, false, false, false, false, false]) 6 rfl (by kernel_rfl) (by kernel_rfl) (by kernel_rfl) (fun _ _ _ h => h) rfl (fun w _ => PV.rv (pv_buildA (parts := [(0, .const (.int .i64 6)), (1, .const (.int .i64 11)), (2, .const (.int .i64 25))]) (cells := int3 6 11 25) arrT_137 zeroT_137 rfl rfl) w) hH rfl ?_
    refine WH.take (listed' := #[true, true, true, true, true, true, true, false, false, true, false, false, false, false, false, false, false, false, false, false, false]) 9 rfl (by kernel_rfl) (by kernel_rfl) (by kernel_rfl) (fun _ _ _ h => h) rfl (fun w _ => PV.rv (pv_move rfl) w) hH rfl ?_
    refine WH.take (listed' := #[true, true, true, true, true, true, true, false, false, true, false, true, false, false, false, false, false, false, false, false, false]) 11 rfl (by kernel_rfl) (by kernel_rfl) (by kernel_rfl) (fun _ _ _ h => h) rfl (fun w _ => PV.rv (pv_move rfl) w) hH rfl ?_
    refine WH.take (listed' := #[true, true, true, true, true, true, true, false, false, true, false, true, true, false, false, false, false, false, false, false, false]) 12 rfl (by kernel_rfl) (by kernel_rfl) (by kernel_rfl) (fun _ _ _ h => h) rfl (fun w _ => PV.rv (pv_move rfl) w) hH rfl ?_
    refine WH.take (listed' := #[true, true, true, true, true, true, true, false, false, true, false, true, true, false, false, true, false, false, false, false, false]) 15 rfl (by kernel_rfl) (by kernel_rfl) (by kernel_rfl) (fun _ _ _ h => h) rfl (fun w _ => PV.rv (pv_move rfl) w) hH rfl ?_
    refine WH.take (listed' := #[true, true, true, true, true, true, true, false, false, true, false, true, true, false, false, true, true, false, false, false, false]) 16 rfl (by kernel_rfl) (by kernel_rfl) (by kernel_rfl) (fun _ _ _ h => h) rfl (fun w _ => PV.rv (pv_move rfl) w) hH rfl ?_
    refine WH.take (listed' := #[true, true, true, true, true, true, true, false, false, true, false, true, true, false, false, true, true, true, false, false, false]) 17 rfl (by kernel_rfl) (by kernel_rfl) (by kernel_rfl) (fun _ _ _ h => h) rfl (fun w _ => PV.rv (pv_indexAddrS1 slT_90 rfl rfl rfl (by omega)) w) hH rfl ?_
    refine WH.take (listed' := #[true, true, true, true, true, true, true, false, false, true, false, true, true, false, false, true, true, true, true, false, false]) 18 rfl (by kernel_rfl) (by kernel_rfl) (by kernel_rfl) (fun _ _ _ h => h) rfl (fun w hS => rv_load oneT_91 rfl (hS.2 _ _ (ws_atD (by omega)))) hH rfl ?_
    refine WH.one (listed' := #[true, true, true, true, true, true, true, true, false, true, false, true, true, false, false, true, true, true, true, false, false]) 7 rfl (by kernel_rfl) rfl ?_
    refine WL.call (args := [.tmp 67, .tmp 68]) cf_84 rfl rfl (three_c _ 6 11 25 _ (by decide) (by decide) (by decide)) ?_
    rintro _ w ⟨rfl, hF⟩
    refine ⟨_, rfl, ?_⟩
    replace hS := hS.no hF
    replace hH := hH.no hF
    refine WL.nil ?_
    refine QN.held hH ?_
    refine WH.take (listed' := #[true, true, true, true, true, true, true, true, true, true, false, true, true, false, false, true, true, true, true, false, false]) 8 rfl (by kernel_rfl) (by kernel_rfl) (by kernel_rfl) (fun _ _ _ h => h) rfl (fun w _ => PV.rv (pv_add32 rfl rfl) w) hH rfl ?_
    refine WH.take (listed' := #[true, true, true, true, true, true, true, true, true, true, true, true, true, false, false, true, true, true, true, false, false]) 10 rfl (by kernel_rfl) (by kernel_rfl) (by kernel_rfl) (fun _ _ _ h => h) rfl (fun w _ => PV.rv (pv_add32 rfl rfl) w) hH rfl ?_
    refine WH.one (listed' := #[true, true, true, true, true, true, true, true, true, true, true, true, true, true, false, true, true, true, true, false, false]) 13 rfl (by kernel_rfl) rfl ?_
    refine WL.call (args := [.tmp 73, .tmp 74]) cf_58 rfl rfl (word_c roundsS n _ (by rw [roundsS_size]; omega) (by rw [roundsS_size]; omega)) ?_
    rintro _ w ⟨rfl, hF⟩
    refine ⟨_, rfl, ?_⟩
    replace hS := hS.no hF
    replace hH := hH.no hF
    refine WL.nil ?_
    refine QN.held hH ?_
    refine WH.take (listed' := #[true, true, true, true, true, true, true, true, true, true, true, true, true, true, true, true, true, true, true, false, false]) 14 rfl (by kernel_rfl) (by kernel_rfl) (by kernel_rfl) (fun _ _ _ h => h) rfl (fun w _ => PV.rv (pv_add32 rfl rfl) w) hH rfl ?_
    refine WH.take (listed' := #[true, true, true, true, true, true, true, true, true, true, true, true, true, true, true, true, true, true, true, true, false]) 19 rfl (by kernel_rfl) (by kernel_rfl) (by kernel_rfl) (fun _ _ _ h => h) rfl (fun w _ => PV.rv (pv_add32 rfl rfl) w) hH rfl ?_
    refine WH.take (listed' := #[true, true, true, true, true, true, true, true, true, true, true, true, true, true, true, true, true, true, true, true, true]) 20 rfl (by kernel_rfl) (by kernel_rfl) (by kernel_rfl) (fun _ _ _ h => h) rfl (fun w _ => PV.rv (pv_assign rfl) w) hH rfl ?_
    refine WH.done (by kernel_rfl) ?_
    refine QN.thenW ?_
    refine WC.seq ?_
    refine WC.region ?_
    refine WL.pv (pv_assign rfl) rfl ?_
    refine WL.nil ?_
    refine QN.thenW ?_
    refine WC.seq ?_
    refine WC.region ?_
    refine WL.pv (pv_move rfl) rfl ?_
    refine WL.pv (pv_move rfl) rfl ?_
    refine WL.pv (pv_move rfl) rfl ?_
    refine WL.pv (pv_indexAddrS1 (j := 0) slT_90 rfl rfl rfl (by omega)) rfl ?_
    refine WL.rv (rv_load oneT_91 rfl (hS.fr.cellS (hC 0 _ (ws_atD (by omega))) (fun h => h))) rfl ?_
    refine WL.pv (pv_buildA (parts := [(0, .const (.int .i64 2)), (1, .const (.int .i64 13)), (2, .const (.int .i64 22))]) (cells := int3 2 13 22) arrT_137 zeroT_137 rfl rfl) rfl ?_
    refine WL.call (args := [.tmp 86, .tmp 87]) cf_84 rfl rfl (three_c _ 2 13 22 _ (by decide) (by decide) (by decide)) ?_
    rintro _ w ⟨rfl, hF⟩
    refine ⟨_, rfl, ?_⟩
    replace hS := hS.no hF
    refine WL.pv (pv_add32 rfl rfl) rfl ?_
    refine WL.pv (pv_move rfl) rfl ?_
    refine WL.pv (pv_add32 rfl rfl) rfl ?_
    refine WL.build1 hS slT_90 zeroT_91 rfl rfl rfl rfl ?_
    intro b92 w hb92 hS
    refine WL.append (k := 1) (N := 65536) hS slT_90 zlenT_91 (by decide) rfl rfl rfl ((hS.bk (k := 0) rfl).rs 0 1 1 1 (by omega) (by simp [maxLen]) (by simp)) (by simp [Value.oneCell']) (by simp) (by omega) (by simp [maxLen]) rfl ?_
    intro v1 w hFr93 hS
    try simp only [List.set] at hS
    replace hS := hS.erase 0
    simp only [List.eraseIdx_zero, List.tail_cons] at hS
    refine WL.pv (pv_assign rfl) rfl ?_
    refine WL.nil ?_
    refine QN.thenW ?_
    refine WC.seq ?_
    refine WC.region ?_
    refine WL.pv (pv_move rfl) rfl ?_
    refine WL.pv (pv_move rfl) rfl ?_
    refine WL.pv (pv_sliceH (b := 3) slT_90 rfl rfl rfl (by omega)) rfl ?_
    refine WL.append (k := 0) (N := 65536) hS slT_90 zlenT_91 (by decide) rfl rfl rfl ((hv.no hS.fr).cutH (b := 3) (by omega)) (fun u hu => ws_one u (List.mem_of_mem_take hu)) (by simp [ws_len]; omega) (by omega) (by simp [maxLen]) rfl ?_
    intro v2 w hFr97 hS
    try simp only [List.set] at hS
    refine WL.pv (pv_assign rfl) rfl ?_
    refine WL.nil ?_
    refine QN.thenW ?_
    refine WC.seq ?_
    refine WC.region ?_
    refine WL.pv (pv_move rfl) rfl ?_
    refine WL.pv (pv_move rfl) rfl ?_
    refine WL.pv (pv_indexAddrS1 (j := 3) slT_90 rfl rfl rfl (by omega)) rfl ?_
    refine WL.rv (rv_load oneT_91 rfl (hS.fr.cellS (hC 3 _ (ws_atD (by omega))) (fun h => h))) rfl ?_
    refine WL.pv (pv_move rfl) rfl ?_
    refine WL.pv (pv_add32 rfl rfl) rfl ?_
    refine WL.build1 hS slT_90 zeroT_91 rfl rfl rfl rfl ?_
    intro b104 w hb104 hS
    refine WL.append (k := 1) (N := 65536) hS slT_90 zlenT_91 (by decide) rfl rfl rfl ((hS.bk (k := 0) rfl).rs 0 1 1 1 (by omega) (by simp [maxLen]) (by simp)) (by simp [Value.oneCell']) (by simp [ws_len]; omega) (by omega) (by simp [maxLen]) rfl ?_
    intro v3 w hFr105 hS
    try simp only [List.set] at hS
    replace hS := hS.erase 0
    simp only [List.eraseIdx_zero, List.tail_cons] at hS
    refine WL.pv (pv_assign rfl) rfl ?_
    refine WL.nil ?_
    refine QN.thenW ?_
    refine WC.seq ?_
    refine WC.region ?_
    refine WL.pv (pv_move rfl) rfl ?_
    refine WL.pv (pv_move rfl) rfl ?_
    refine WL.pv (pv_sliceLH (a := 4) (b := 7) slT_90 rfl rfl rfl rfl rfl (by omega) (by omega)) rfl ?_
    refine WL.append (k := 0) (N := 65536) hS slT_90 zlenT_91 (by decide) rfl rfl rfl ((hv.no hS.fr).cut (a := 4) (b := 7) (by omega) (by omega)) (fun u hu => ws_one u (List.mem_of_mem_drop (List.mem_of_mem_take hu))) (by simp [ws_len]; omega) (by omega) (by simp [maxLen]) rfl ?_
    intro v4 w hFr109 hS
    try simp only [List.set] at hS
    have e1 : ∀ a b : UInt32, (((([] ++ List.take (1 * 1) (List.drop 0 [w32 a])) ++ (ws VV).take 3) ++ List.take (1 * 1) (List.drop 0 [w32 b])) ++ List.take ((7 - 4) * 1) (List.drop (4 * 1) (ws VV))) = ws ([a] ++ VV.take 3 ++ [b] ++ (VV.drop 4).take 3) := fun a b => by simp [ws, List.map_take, List.map_drop]
    rw [e1] at hS
    change ST _ No w [.row v4 91 1 (ws (stepR VV (hexW roundsS n) (WW.getD n 0)))] at hS
    refine WL.pv (pv_assign rfl) rfl ?_
    refine WL.nil ?_
    refine QN.thenW ?_
    refine WC.region ?_
    refine WL.pv (pv_move rfl) rfl ?_
    refine WL.pv (pv_assign rfl) rfl ?_
    refine WL.nil ?_
    refine QN.blockN ?_
    refine QN.thenW ?_
    refine WC.region ?_
    refine WL.pv (pv_move rfl) rfl ?_
    refine WL.pv (pv_add rfl rfl (by omega)) rfl ?_
    refine WL.pv (pv_assign rfl) rfl ?_
    refine WL.nil ?_
    refine QN.roundE ?_
    refine ⟨((n + 1, v4)), (Sub.cons rfl (Sub.cons rfl (Sub.cons rfl (Sub.cons rfl (Sub.cons rfl Sub.nil))))), ⟨by show n + 1 ≤ 64; omega, hF0.trans hS.fr (fun _ _ h => h), hsv.no hS.fr, by
  have := (hS.rw_ (k := 0) rfl).rs
  rw [rndR, hVV]; exact this⟩, ?_⟩
    first | omega | (dsimp only; omega)
  · skip
    obtain rfl : n = 64 := by omega
    obtain ⟨wm, rfl⟩ : ∃ wm, wm = w := ⟨w, rfl⟩
    replace hS := (ST.start wm No).addNil 91 1
    refine WC.exit ?_
    refine QN.thenX ?_
    refine QN.thenX ?_
    refine QN.blockX ?_
    refine QN.thenW ?_
    refine WC.seq ?_
    refine WC.region ?_
    refine WL.pv (pv_assign rfl) rfl ?_
    refine WL.nil ?_
    refine QN.thenW ?_
    refine WC.seq ?_
    refine WC.seq ?_
    refine WC.region ?_
    refine WL.pv (pv_assign rfl) rfl ?_
    refine WL.nil ?_
    refine QN.thenW ?_
    refine WC.block ?_
    refine WC.loop (α := Nat × Value) (fun s => [(0, .slice (some ⟨gf, of_, none⟩) 8 cf), (7, .slice (some ⟨g, o, none⟩) 8 cv), (13, s.2), (14, .int .i64 (s.1 : Int))]) (fun s w => s.1 ≤ 8 ∧ ST wm No w [.row s.2 91 1 (ws (outR f VV s.1))]) (fun s => 8 - s.1) ((0, .slice none 0 0)) (Sub.cons rfl (Sub.cons rfl (Sub.cons rfl (Sub.cons rfl Sub.nil)))) ⟨by show 0 ≤ 8; omega, hS⟩ ?_
    rintro ⟨k, v⟩ w N hN hR
    change N = 8 - k at hN
    change k ≤ 8 ∧ ST wm No w [.row v 91 1 (ws (outR f VV k))] at hR
    show WC _ _ _ _ [(0, .slice (some ⟨gf, of_, none⟩) 8 cf), (7, .slice (some ⟨g, o, none⟩) 8 cv), (13, v), (14, .int .i64 (k : Int))] _
    obtain ⟨hk, hS⟩ := hR
    refine WC.seq ?_
    refine WC.seq ?_
    refine WC.region ?_
    refine WL.pv (pv_move rfl) rfl ?_
    refine WL.pv (pv_lss rfl rfl) rfl ?_
    refine WL.nil ?_
    refine QN.thenW ?_
    refine WC.condD rfl (fun hc112 => ?_) (fun hc112 => ?_)
    · skip
      have hk8 : k < 8 := by omega
      refine WC.skip ?_
      refine QN.thenW ?_
      refine WC.seq ?_
      refine WC.block ?_
      refine WC.draw (S := fun w => Fr No wm w) (fuel := 13) (listed := #[false, false, false, false, false, false, false, false, false, false, false, false, false]) mixedO rfl rfl ?_
      have hS := hS.no (Fr.drew _)
      refine WH.take (listed' := #[true, false, false, false, false, false, false, false, false, false, false, false, false]) 0 rfl (by kernel_rfl) (by kernel_rfl) (by kernel_rfl) (fun _ _ _ h => h) rfl (fun w _ => PV.rv (pv_move rfl) w) hS.fr rfl ?_
      refine WH.take (listed' := #[true, true, false, false, false, false, false, false, false, false, false, false, false]) 1 rfl (by kernel_rfl) (by kernel_rfl) (by kernel_rfl) (fun _ _ _ h => h) rfl (fun w _ => PV.rv (pv_move rfl) w) hS.fr rfl ?_
      refine WH.take (listed' := #[true, true, true, false, false, false, false, false, false, false, false, false, false]) 2 rfl (by kernel_rfl) (by kernel_rfl) (by kernel_rfl) (fun _ _ _ h => h) rfl (fun w _ => PV.rv (pv_move rfl) w) hS.fr rfl ?_
      refine WH.take (listed' := #[true, true, true, true, false, false, false, false, false, false, false, false, false]) 3 rfl (by kernel_rfl) (by kernel_rfl) (by kernel_rfl) (fun _ _ _ h => h) rfl (fun w _ => PV.rv (pv_indexAddrS1 slT_90 rfl rfl rfl (by omega)) w) hS.fr rfl ?_
      refine WH.take (listed' := #[true, true, true, true, true, false, false, false, false, false, false, false, false]) 4 rfl (by kernel_rfl) (by kernel_rfl) (by kernel_rfl) (fun _ _ _ h => h) rfl (fun w hS => rv_load oneT_91 rfl ((hF0.trans hS (fun _ _ h => h)).cellS (hfc k _ (ws_atD (by omega))) (fun h => h))) hS.fr rfl ?_
      refine WH.take (listed' := #[true, true, true, true, true, true, false, false, false, false, false, false, false]) 5 rfl (by kernel_rfl) (by kernel_rfl) (by kernel_rfl) (fun _ _ _ h => h) rfl (fun w _ => PV.rv (pv_move rfl) w) hS.fr rfl ?_
      refine WH.take (listed' := #[true, true, true, true, true, true, true, false, false, false, false, false, false]) 6 rfl (by kernel_rfl) (by kernel_rfl) (by kernel_rfl) (fun _ _ _ h => h) rfl (fun w _ => PV.rv (pv_move rfl) w) hS.fr rfl ?_
      refine WH.take (listed' := #[true, true, true, true, true, true, true, true, false, false, false, false, false]) 7 rfl (by kernel_rfl) (by kernel_rfl) (by kernel_rfl) (fun _ _ _ h => h) rfl (fun w _ => PV.rv (pv_indexAddrS1 slT_90 rfl rfl rfl (by omega)) w) hS.fr rfl ?_
      refine WH.take (listed' := #[true, true, true, true, true, true, true, true, true, false, false, false, false]) 8 rfl (by kernel_rfl) (by kernel_rfl) (by kernel_rfl) (fun _ _ _ h => h) rfl (fun w hS => rv_load oneT_91 rfl (hS.cellS (hC k _ (ws_atD (by omega))) (fun h => h))) hS.fr rfl ?_
      refine WH.take (listed' := #[true, true, true, true, true, true, true, true, true, true, false, false, false]) 9 rfl (by kernel_rfl) (by kernel_rfl) (by kernel_rfl) (fun _ _ _ h => h) rfl (fun w _ => PV.rv (pv_add32 rfl rfl) w) hS.fr rfl ?_
      refine WH.one (listed' := #[true, true, true, true, true, true, true, true, true, true, true, false, false]) 10 rfl (by kernel_rfl) rfl ?_
      refine WL.build1 hS slT_90 zeroT_91 rfl rfl rfl rfl ?_
      intro b125 w hb125 hS
      refine WL.nil ?_
      refine QN.held hS.fr ?_
      refine WH.one (listed' := #[true, true, true, true, true, true, true, true, true, true, true, true, false]) 11 rfl (by kernel_rfl) rfl ?_
      refine WL.append (k := 1) (N := 65536) hS slT_90 zlenT_91 (by decide) rfl rfl rfl ((hS.bk (k := 0) rfl).rs 0 1 1 1 (by omega) (by simp [maxLen]) (by simp)) (by simp [Value.oneCell']) (by simp [ws_len, outR_len]; omega) (by omega) (by simp [maxLen]) rfl ?_
      intro v1 w hFr126 hS
      try simp only [List.set] at hS
      replace hS := hS.erase 0
      simp only [List.eraseIdx_zero, List.tail_cons] at hS
      change ST wm No w [.row v1 91 1 (ws (outR f VV k) ++ [w32 (f.getD k 0 + VV.getD k 0)])] at hS
      rw [ws_snoc, ← outR_succ] at hS
      refine WL.nil ?_
      refine QN.held hS.fr ?_
      refine WH.take (listed' := #[true, true, true, true, true, true, true, true, true, true, true, true, true]) 12 rfl (by kernel_rfl) (by kernel_rfl) (by kernel_rfl) (fun _ _ _ h => h) rfl (fun w _ => PV.rv (pv_assign rfl) w) hS.fr rfl ?_
      refine WH.done (by kernel_rfl) ?_
      refine QN.blockN ?_
      refine QN.thenW ?_
      refine WC.region ?_
      refine WL.pv (pv_move rfl) rfl ?_
      refine WL.pv (pv_add rfl rfl (by omega)) rfl ?_
      refine WL.pv (pv_assign rfl) rfl ?_
      refine WL.nil ?_
      refine QN.roundE ?_
      refine ⟨((k + 1, v1)), (Sub.cons rfl (Sub.cons rfl (Sub.cons rfl (Sub.cons rfl Sub.nil)))), ⟨by show k + 1 ≤ 8; omega, hS⟩, ?_⟩
      first | omega | (dsimp only; omega)
    · skip
      obtain rfl : k = 8 := by omega
      refine WC.exit ?_
      refine QN.thenX ?_
      refine QN.thenX ?_
      refine QN.blockX ?_
      refine QN.thenW ?_
      refine WC.seq ?_
      refine WC.region ?_
      refine WL.pv (pv_move rfl) rfl ?_
      refine WL.pv (pv_assign rfl) rfl ?_
      refine WL.nil ?_
      refine QN.thenW ?_
      refine WC.ret ?_
      refine QN.ret1 rfl rfl ?_
      refine ⟨_, rfl, hF0.trans hS.fr (fun _ _ h => h), ?_, fun b hb => Nat.le_trans hF0.size ((hS.own' (i := 0) rfl hb).resolve_right (fun h => h))⟩
      rw [behL, hWW, hVV]; exact hS.rw_ (k := 0) rfl


/-- The zeros behind the mark. -/
def padN (m : Nat) : Nat := (119 - m % 64) % 64
def filL (bl : List UInt8) : List UInt8 := bl ++ [128] ++ List.replicate (padN bl.length) 0 ++ beB (8 * UInt64.ofNat bl.length) 8
theorem fillP_set (bl : List UInt8) (n k : Nat) (c : UInt8) (h : k < bl.length) (hn : bl.length ≤ n) (hc : c = bl[k]) : (bl.take k ++ List.replicate (n - k) 0).set k c = bl.take (k + 1) ++ List.replicate (n - (k + 1)) 0 := by
  subst hc
  rw [List.set_append_right _ _ (by simp; omega), show k - (bl.take k).length = 0 from by simp; omega, show n - k = (n - (k + 1)) + 1 from by omega, List.replicate_succ, List.set_cons_zero, List.take_succ_eq_append_getElem h, List.append_assoc]
  rfl
theorem fillP_end (bl : List UInt8) (z : Nat) (c : UInt8) : (bl.take bl.length ++ List.replicate (1 + bl.length + z - bl.length) 0).set bl.length c = bl ++ [c] ++ List.replicate z 0 := by
  rw [List.take_length, List.set_append_right _ _ (by omega), Nat.sub_self, show 1 + bl.length + z - bl.length = z + 1 from by omega, List.replicate_succ, List.set_cons_zero]
  simp

set_option maxHeartbeats 1000000 in
set_option maxRecDepth 100000 in
theorem filled_c (A : Option Addr) (m c : Nat) (bl : List UInt8) (w0 : World) (hb : Rs w0 (.slice A m c) 1 (bs8 bl)) (hbl : bl.length ≤ 10000) : Calls Try.prog 57 #[.slice A m c] w0 (OwnPost (bs8 (filL bl)) 5 w0) := by
  obtain ⟨hln, _, _⟩ := hb.len
  rw [bs8_len, Nat.mul_one] at hln
  have hpad2 : padN m < 64 := Nat.mod_lt _ (by decide)
  refine calls_of_WC (args := [.slice A m c]) Try.func57 rfl Try.ntmps57 rfl ?_
  show WC _ _ _ _ [(0, .slice A m c)] _
  have hS := ST.start w0 No
  refine WC.seq ?_
  refine WC.region ?_
  refine WL.pv (pv_assign rfl) rfl ?_
  refine WL.nil ?_
  refine QN.thenW ?_
  refine WC.seq ?_
  refine WC.region ?_
  refine WL.pv (pv_move rfl) rfl ?_
  refine WL.pv (pv_len slS_22 rfl) rfl ?_
  refine WL.pv (pv_add rfl rfl (by omega)) rfl ?_
  refine WL.pv (pv_assign rfl) rfl ?_
  refine WL.nil ?_
  refine QN.thenW ?_
  refine WC.seq ?_
  refine WC.block ?_
  refine WC.loop (α := Nat) (fun k => [(0, .slice A m c), (3, .int .i64 ((1 + m + k : Nat) : Int))]) (fun k w => k ≤ padN m ∧ ST w0 No w []) (fun k => padN m - k) (0) (Sub.cons rfl (Sub.cons (by simp [lk]) Sub.nil)) ⟨by omega, hS⟩ ?_
  rintro k w N hN hR
  obtain ⟨hk, hS⟩ := hR
  have hpad : padN m = (119 - m % 64) % 64 := rfl
  refine WC.seq ?_
  refine WC.seq ?_
  refine WC.region ?_
  refine WL.pv (pv_move rfl) rfl ?_
  refine WL.pv (pv_rem rfl rfl (by omega)) rfl ?_
  refine WL.pv (pv_neq rfl rfl) rfl ?_
  refine WL.nil ?_
  refine QN.thenW ?_
  refine WC.condD rfl (fun hc11 => ?_) (fun hc11 => ?_)
  · skip
    have hkz : k < padN m := by omega
    refine WC.skip ?_
    refine QN.thenW ?_
    refine WC.block ?_
    refine WC.region ?_
    refine WL.pv (pv_move rfl) rfl ?_
    refine WL.pv (pv_add rfl rfl (by omega)) rfl ?_
    refine WL.pv (pv_assign rfl) rfl ?_
    refine WL.nil ?_
    refine QN.blockN ?_
    refine QN.roundE ?_
    refine ⟨(k + 1), (Sub.cons rfl (Sub.cons rfl Sub.nil)), ⟨by omega, hS⟩, ?_⟩
    first | omega | (dsimp only; omega)
  · skip
    obtain rfl : k = padN m := by omega
    refine WC.exit ?_
    refine QN.thenX ?_
    refine QN.thenX ?_
    refine QN.blockX ?_
    refine QN.thenW ?_
    refine WC.seq ?_
    refine WC.region ?_
    refine WL.pv (pv_move rfl) rfl ?_
    refine WL.makeB hS slT_22 zeroT_5 (by simp) rfl rfl (by omega) (by simp [maxLen]; omega) rfl ?_
    intro bt w hbt hS
    rw [show (List.replicate (1 + m + padN m) [b8 0]).flatten = bs8 (bl.take 0 ++ List.replicate (1 + m + padN m - 0) 0) from by simp [bs8]] at hS
    refine WL.pv (pv_assign rfl) rfl ?_
    refine WL.nil ?_
    refine QN.thenW ?_
    refine WC.seq ?_
    refine WC.seq ?_
    refine WC.region ?_
    refine WL.pv (pv_assign rfl) rfl ?_
    refine WL.nil ?_
    refine QN.thenW ?_
    refine WC.block ?_
    refine WC.loop (α := Nat) (fun k => [(0, .slice A m c), (4, .slice (some ⟨bt, 0, none⟩) (1 + m + padN m) (1 + m + padN m)), (5, .int .i64 (k : Int))]) (fun k w => k ≤ m ∧ ST w0 No w [.blk bt 5 (bs8 (bl.take k ++ List.replicate (1 + m + padN m - k) 0))]) (fun k => m - k) (0) (Sub.cons rfl (Sub.cons rfl (Sub.cons rfl Sub.nil))) ⟨by omega, hS⟩ ?_
    rintro k w N hN hR
    obtain ⟨hk, hS⟩ := hR
    refine WC.seq ?_
    refine WC.seq ?_
    refine WC.region ?_
    refine WL.pv (pv_move rfl) rfl ?_
    refine WL.pv (pv_move rfl) rfl ?_
    refine WL.pv (pv_len slS_22 rfl) rfl ?_
    refine WL.pv (pv_lss rfl rfl) rfl ?_
    refine WL.nil ?_
    refine QN.thenW ?_
    refine WC.condD rfl (fun hc19 => ?_) (fun hc19 => ?_)
    · skip
      have hkm : k < m := by omega
      obtain ⟨b1, o1, rfl, _, hc1, hc2, hcell⟩ := hb.at_ (by rw [bs8_len]; omega)
      refine WC.skip ?_
      refine QN.thenW ?_
      refine WC.seq ?_
      refine WC.block ?_
      refine WC.region ?_
      refine WL.pv (pv_move rfl) rfl ?_
      refine WL.pv (pv_move rfl) rfl ?_
      refine WL.pv (pv_move rfl) rfl ?_
      refine WL.pv (pv_move rfl) rfl ?_
      refine WL.pv (pv_indexAddrS1 slT_22 rfl rfl rfl (by omega)) rfl ?_
      refine WL.rv (rv_load oneT_5 rfl (hS.fr.cellS (hcell k _ (bs8_at (by omega))) (fun h => h))) rfl ?_
      refine WL.pv (pv_indexAddrS1Z slT_22 rfl rfl rfl (by omega)) rfl ?_
      refine WL.store (k := 0) hS sizeT_5 rfl rfl rfl rfl (by rw [bs8_len]; simp; omega) ?_
      intro w hS
      try simp only [List.set] at hS
      rw [bs8_set, fillP_set bl _ k _ (by omega) (by omega) rfl] at hS
      refine WL.nil ?_
      refine QN.blockN ?_
      refine QN.thenW ?_
      refine WC.region ?_
      refine WL.pv (pv_move rfl) rfl ?_
      refine WL.pv (pv_add rfl rfl (by omega)) rfl ?_
      refine WL.pv (pv_assign rfl) rfl ?_
      refine WL.nil ?_
      refine QN.roundE ?_
      refine ⟨(k + 1), (Sub.cons rfl (Sub.cons rfl (Sub.cons rfl Sub.nil))), ⟨by omega, hS⟩, ?_⟩
      first | omega | (dsimp only; omega)
    · skip
      obtain rfl : k = m := by omega
      obtain rfl : k = bl.length := by omega
      refine WC.exit ?_
      refine QN.thenX ?_
      refine QN.thenX ?_
      refine QN.blockX ?_
      refine QN.thenW ?_
      refine WC.seq ?_
      refine WC.region ?_
      refine WL.pv (pv_move rfl) rfl ?_
      refine WL.pv (pv_move rfl) rfl ?_
      refine WL.pv (pv_len slS_22 rfl) rfl ?_
      refine WL.pv (pv_indexAddrS1Z slT_22 rfl rfl rfl (by omega)) rfl ?_
      refine WL.store (k := 0) hS sizeT_5 rfl rfl rfl rfl (by rw [bs8_len]; simp; omega) ?_
      intro w hS
      try simp only [List.set] at hS
      change ST w0 No w [.blk bt 5 ((bs8 (bl.take bl.length ++ List.replicate (1 + bl.length + padN bl.length - bl.length) 0)).set bl.length (b8 128))] at hS
      rw [bs8_set, fillP_end] at hS
      replace hS := hS.toRow (m := 1 + bl.length + padN bl.length) (sz := 1) (k := 0) rfl (by simp [bs8_len]; omega) (by simp only [maxLen]; omega)
      simp only [List.set] at hS
      refine WL.nil ?_
      refine QN.thenW ?_
      refine WC.seq ?_
      refine WC.region ?_
      refine WL.pv (pv_move rfl) rfl ?_
      refine WL.pv (pv_move rfl) rfl ?_
      refine WL.pv (pv_len slS_22 rfl) rfl ?_
      refine WL.pv (pv_conv someT_3 Try.underlying86 rfl (cv_i_64 _)) rfl ?_
      refine WL.pv (pv_mul64 (a := 8) rfl rfl) rfl ?_
      refine WL.call (args := [.tmp 37, .const (.int .i64 8)]) cf_61 rfl rfl (beBytes_c _ 8 _ (by omega)) ?_
      rintro _ w ⟨v8, rfl, hF, hR8, _⟩
      refine ⟨_, rfl, ?_⟩
      replace hS := hS.no hF
      refine WL.append (k := 0) (N := 65536) hS slT_22 zlenT_5 (by decide) rfl rfl rfl hR8.rs bs8_one (by simp [bs8_len, beB_len]; omega) (by omega) (by simp [maxLen]) rfl ?_
      intro v1 w hFr39 hS
      try simp only [List.set] at hS
      refine WL.pv (pv_assign rfl) rfl ?_
      refine WL.nil ?_
      refine QN.thenW ?_
      refine WC.seq ?_
      refine WC.region ?_
      refine WL.pv (pv_move rfl) rfl ?_
      refine WL.pv (pv_assign rfl) rfl ?_
      refine WL.nil ?_
      refine QN.thenW ?_
      refine WC.ret ?_
      refine QN.ret1 rfl rfl ?_
      refine ⟨_, rfl, hS.fr, ?_, fun b hb => (hS.own' (i := 0) rfl hb).resolve_right (fun h => h)⟩
      rw [filL, bs8_app]; exact hS.rw_ (k := 0) rfl

end Go.Proofs.Ytjcebkhhgdgohaa
