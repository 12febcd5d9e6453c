/- What the functions of the disk and of the journal compute, first part. -/
import Derived.Test.YtjcebkhhgdgohaaDa
namespace Go.Proofs.Ytjcebkhhgdgohaa
open Go Go.RowKit Go.Eng
theorem layT_114 : layOf Try.prog 114 = some [(0, 1), (1, 1), (2, 1), (3, 1), (4, 1)] := by kernel_rfl
theorem slT_111 : slT Try.prog 111 = some (153, 64, 64) := by kernel_rfl
theorem zeroT_114 : zeroT Try.prog 114 = some ([.slice none 0 0, .slice none 0 0, .slice none 0 0, .int .i64 0, .bool false]) := by kernel_rfl
theorem zeroT_153 : zeroT Try.prog 153 = some (List.replicate 64 (b8 0)) := by kernel_rfl

/-- How many sectors a disk has. -/
def nDisk (n : Int) : Nat := min n.toNat 2048
theorem nDisk_eq (n : Int) : ((nDisk n : Nat) : Int) = (if (0 : Int) < (if (2048 : Int) < n then 2048 else n) then (if (2048 : Int) < n then 2048 else n) else 0) := by
  unfold nDisk
  by_cases h : 2048 < n
  · rw [if_pos h, if_pos (by omega)]; omega
  · rw [if_neg h]; split <;> omega
theorem nDisk_le (n : Int) : nDisk n ≤ 2048 := by unfold nDisk; omega
/-- A disk in memory. -/
def esK (bd bn : Nat) (vs vp : Value) (n : Nat) (ss : List (List UInt8)) (ps : List Value) : List Ent :=
  [.blk bd 114 [vs, .slice (some ⟨bn, 0, none⟩) n n, vp, .int .i64 (-1), .bool false], .blk bn 153 (kc ss), .row vp 155 65 ps]
structure Dsk (n : Nat) (ss : List (List UInt8)) : Prop where
  len : ss.length = n
  all : KN 64 ss
  le : n ≤ 2048
theorem Dsk.set {n : Nat} {ss : List (List UInt8)} (h : Dsk n ss) (i : Nat) {b : List UInt8} (hb : b.length = 64) : Dsk n (ss.set i b) := ⟨by rw [List.length_set]; exact h.len, h.all.set i hb, h.le⟩
def zSec : List UInt8 := List.replicate 64 0
def NewPost (n : Int) (w0 : World) (e : Ending) (w : World) : Prop := ∃ bd bn vs, e = .returned (.pointer (some ⟨bd, 0, none⟩)) ∧ ST w0 No w (esK bd bn vs (.slice none 0 0) (nDisk n) (List.replicate (nDisk n) zSec) [])


theorem fin1 {n : Int} {w0 w : World} {bd b8' b10' : Nat} (hS : ST w0 No w [.blk bd 114 [.slice (some ⟨b8', 0, none⟩) (nDisk n) (nDisk n), .slice (some ⟨b10', 0, none⟩) (nDisk n) (nDisk n), .slice none 0 0, .int .i64 (-1), .bool false], .blk b10' 153 (List.replicate (nDisk n) (List.replicate 64 (b8 0))).flatten, .blk b8' 153 (List.replicate (nDisk n) (List.replicate 64 (b8 0))).flatten]) : NewPost n w0 (.returned (.pointer (some ⟨bd, 0, none⟩))) w := by
  have h2 : ST w0 No w [.blk bd 114 [.slice (some ⟨b8', 0, none⟩) (nDisk n) (nDisk n), .slice (some ⟨b10', 0, none⟩) (nDisk n) (nDisk n), .slice none 0 0, .int .i64 (-1), .bool false], .blk b10' 153 (List.replicate (nDisk n) (List.replicate 64 (b8 0))).flatten] := hS.erase 2
  have h3 := ((h2.addNil 155 65).top 2 rfl).top 2 rfl
  simp only [List.eraseIdx_zero, List.eraseIdx_cons_succ, List.tail_cons] at h3
  rw [kc_rep] at h3
  exact ⟨bd, b10', _, rfl, h3⟩
theorem fin2 {n : Int} {w0 w : World} {bd b8' b10' : Nat} (hS : ST w0 No w [.blk bd 114 [.slice (some ⟨b8', 0, none⟩) (nDisk n) (nDisk n), .slice (some ⟨b10', 0, none⟩) (nDisk n) (nDisk n), .slice none 0 0, .int .i64 (-1), .bool false], .blk b8' 153 (List.replicate (nDisk n) (List.replicate 64 (b8 0))).flatten, .blk b10' 153 (List.replicate (nDisk n) (List.replicate 64 (b8 0))).flatten]) : NewPost n w0 (.returned (.pointer (some ⟨bd, 0, none⟩))) w := by
  exact fin1 (hS.perm (.cons _ (.swap _ _ [])))

set_option maxRecDepth 100000 in
theorem newK_c (n : Int) (w0 : World) : Calls Try.prog 49 #[.int .i64 n] w0 (NewPost n w0) := by
  have hle := nDisk_le n
  refine calls_of_WC (args := [.int .i64 n]) Try.func49 rfl Try.ntmps49 rfl ?_
  show WC _ _ _ _ [(0, .int .i64 n)] _
  have hS := ST.start w0 No
  refine WC.seq ?_
  refine WC.region ?_
  refine WL.pv (pv_assign rfl) rfl ?_
  refine WL.nil ?_
  refine QN.thenW ?_
  refine WC.seq ?_
  refine WC.region ?_
  refine WL.pv (pv_move rfl) rfl ?_
  refine WL.pv (pv_min rfl rfl) rfl ?_
  refine WL.pv (v := .int .i64 ((nDisk n : Nat) : Int)) (by rw [nDisk_eq]; exact pv_max rfl rfl) rfl ?_
  refine WL.pv (pv_assign rfl) rfl ?_
  refine WL.nil ?_
  refine QN.thenW ?_
  refine WC.seq ?_
  refine WC.draw (S := fun _ => True) (fuel := 7) (listed := #[false, false, false, false, false, false, false]) mixedO rfl rfl ?_
  have hS := hS.no (Fr.drew _)
  refine WH.take (listed' := #[true, false, false, false, false, false, false]) 0 rfl (by kernel_rfl) (by kernel_rfl) (by kernel_rfl) (fun _ _ _ h => h) rfl (fun w _ => PV.rv (pv_move rfl) w) trivial rfl ?_
  refine WH.take (listed' := #[true, false, true, false, false, false, false]) 2 rfl (by kernel_rfl) (by kernel_rfl) (by kernel_rfl) (fun _ _ _ h => h) rfl (fun w _ => PV.rv (pv_move rfl) w) trivial rfl ?_
  refine WH.two (m1 := #[true, true, true, false, false, false, false]) (m2 := #[true, false, true, true, false, false, false]) 1 3 rfl rfl (by kernel_rfl) rfl rfl ?_ ?_
  · skip
    refine WL.makeB (c := nDisk n) hS slT_111 zeroT_153 (by simp) rfl rfl (by omega) (by simp only [maxLen]; omega) rfl ?_
    intro b8 w hb8 hS
    refine WL.nil ?_
    refine QN.held trivial ?_
    refine WH.one (listed' := #[true, true, true, true, false, false, false]) 3 rfl (by kernel_rfl) rfl ?_
    refine WL.makeB (c := nDisk n) hS slT_111 zeroT_153 (by simp) rfl rfl (by omega) (by simp only [maxLen]; omega) rfl ?_
    intro b10 w hb10 hS
    refine WL.nil ?_
    refine QN.held trivial ?_
    refine WH.take (listed' := #[true, true, true, true, true, false, false]) 4 rfl (by kernel_rfl) (by kernel_rfl) (by kernel_rfl) (fun _ _ _ h => h) rfl (fun w hS => PV.rv (pv_buildS (parts := [(0, .tmp 8), (1, .tmp 10), (3, .const (.int .i64 (-1)))]) (cells := [.slice (some ⟨b8, 0, none⟩) (nDisk n) (nDisk n), .slice (some ⟨b10, 0, none⟩) (nDisk n) (nDisk n), .slice none 0 0, .int .i64 (-1), .bool false]) layT_114 zeroT_114 rfl rfl) w) trivial rfl ?_
    refine WH.one (listed' := #[true, true, true, true, true, true, false]) 5 rfl (by kernel_rfl) rfl ?_
    refine WL.box (vs := [.slice (some ⟨b8, 0, none⟩) (nDisk n) (nDisk n), .slice (some ⟨b10, 0, none⟩) (nDisk n) (nDisk n), .slice none 0 0, .int .i64 (-1), .bool false]) hS rfl rfl rfl ?_
    intro bd w hbd hS
    refine WL.nil ?_
    refine QN.held trivial ?_
    refine WH.take (listed' := #[true, true, true, true, true, true, true]) 6 rfl (by kernel_rfl) (by kernel_rfl) (by kernel_rfl) (fun _ _ _ h => h) rfl (fun w _ => PV.rv (pv_assign rfl) w) trivial rfl ?_
    refine WH.done (by kernel_rfl) ?_
    refine QN.thenW ?_
    refine WC.ret ?_
    refine QN.ret1 rfl rfl ?_
    first | exact fin1 hS | exact fin2 hS
  · skip
    refine WL.makeB (c := nDisk n) hS slT_111 zeroT_153 (by simp) rfl rfl (by omega) (by simp only [maxLen]; omega) rfl ?_
    intro b10 w hb10 hS
    refine WL.nil ?_
    refine QN.held trivial ?_
    refine WH.one (listed' := #[true, true, true, true, false, false, false]) 1 rfl (by kernel_rfl) rfl ?_
    refine WL.makeB (c := nDisk n) hS slT_111 zeroT_153 (by simp) rfl rfl (by omega) (by simp only [maxLen]; omega) rfl ?_
    intro b8 w hb8 hS
    refine WL.nil ?_
    refine QN.held trivial ?_
    refine WH.take (listed' := #[true, true, true, true, true, false, false]) 4 rfl (by kernel_rfl) (by kernel_rfl) (by kernel_rfl) (fun _ _ _ h => h) rfl (fun w hS => PV.rv (pv_buildS (parts := [(0, .tmp 8), (1, .tmp 10), (3, .const (.int .i64 (-1)))]) (cells := [.slice (some ⟨b8, 0, none⟩) (nDisk n) (nDisk n), .slice (some ⟨b10, 0, none⟩) (nDisk n) (nDisk n), .slice none 0 0, .int .i64 (-1), .bool false]) layT_114 zeroT_114 rfl rfl) w) trivial rfl ?_
    refine WH.one (listed' := #[true, true, true, true, true, true, false]) 5 rfl (by kernel_rfl) rfl ?_
    refine WL.box (vs := [.slice (some ⟨b8, 0, none⟩) (nDisk n) (nDisk n), .slice (some ⟨b10, 0, none⟩) (nDisk n) (nDisk n), .slice none 0 0, .int .i64 (-1), .bool false]) hS rfl rfl rfl ?_
    intro bd w hbd hS
    refine WL.nil ?_
    refine QN.held trivial ?_
    refine WH.take (listed' := #[true, true, true, true, true, true, true]) 6 rfl (by kernel_rfl) (by kernel_rfl) (by kernel_rfl) (fun _ _ _ h => h) rfl (fun w _ => PV.rv (pv_assign rfl) w) trivial rfl ?_
    refine WH.done (by kernel_rfl) ?_
    refine QN.thenW ?_
    refine WC.ret ?_
    refine QN.ret1 rfl rfl ?_
    first | exact fin1 hS | exact fin2 hS

end Go.Proofs.Ytjcebkhhgdgohaa
namespace Go.Proofs.Ytjcebkhhgdgohaa
open Go Go.RowKit Go.Eng
theorem aggT_153 : aggT Try.prog 153 = some 64 := by kernel_rfl
theorem arrT_153 : arrT Try.prog 153 = some (64, 1) := by kernel_rfl
theorem cf_97 : callable Try.prog 97 = true := by kernel_rfl
theorem cf_98 : callable Try.prog 98 = true := by kernel_rfl
theorem cf_99 : callable Try.prog 99 = true := by kernel_rfl
theorem fldT_114_0 : fldT Try.prog 114 0 = some 0 := by kernel_rfl
theorem fldT_114_1 : fldT Try.prog 114 1 = some 1 := by kernel_rfl
theorem fldT_114_2 : fldT Try.prog 114 2 = some 2 := by kernel_rfl
theorem fldT_114_3 : fldT Try.prog 114 3 = some 3 := by kernel_rfl
theorem fldT_114_4 : fldT Try.prog 114 4 = some 4 := by kernel_rfl
theorem layT_155 : layOf Try.prog 155 = some [(0, 1), (1, 64)] := by kernel_rfl
theorem oneT_111 : oneT Try.prog 111 = true := by kernel_rfl
theorem oneT_112 : oneT Try.prog 112 = true := by kernel_rfl
theorem oneT_4 : oneT Try.prog 4 = true := by kernel_rfl
theorem sizeT_111 : sizeT Try.prog 111 = some 1 := by kernel_rfl
theorem sizeT_112 : sizeT Try.prog 112 = some 1 := by kernel_rfl
theorem sizeT_153 : sizeT Try.prog 153 = some 64 := by kernel_rfl
theorem slS_111 : (slT Try.prog 111).isSome = true := by kernel_rfl
theorem slT_112 : slT Try.prog 112 = some (155, 65, 72) := by kernel_rfl
theorem zeroT_155 : zeroT Try.prog 155 = some (([.int .i64 0] ++ List.replicate 64 (b8 0))) := by kernel_rfl
theorem zlenT_153 : (zeroT Try.prog 153).map List.length = some 64 := by kernel_rfl
theorem zlenT_155 : (zeroT Try.prog 155).map List.length = some 65 := by kernel_rfl

theorem one65 (i : Int) (bl : List UInt8) : ∀ u ∈ ((.int .i64 i :: bs8 bl : List Value).drop 0).take (1 * 65), u.oneCell' = true := fun u hu => by
  rcases List.mem_cons.1 (List.mem_of_mem_take hu) with rfl | h
  · rfl
  · exact bs8_one u h

set_option maxRecDepth 100000 in
theorem lenK_c (bd bn : Nat) (vs vp : Value) (n : Nat) (w0 : World) (hb : Bk w0 bd 114 [vs, .slice (some ⟨bn, 0, none⟩) n n, vp, .int .i64 (-1), .bool false]) : Calls Try.prog 71 #[.pointer (some ⟨bd, 0, none⟩)] w0 fun e w => e = .returned (.int .i64 (n : Int)) ∧ Fr No w0 w := by
  refine calls_of_WC (args := [.pointer (some ⟨bd, 0, none⟩)]) Try.func71 rfl Try.ntmps71 rfl ?_
  show WC _ _ _ _ [(0, .pointer (some ⟨bd, 0, none⟩))] _
  have hS := ST.start w0 No
  refine WC.seq ?_
  refine WC.region ?_
  refine WL.pv (pv_assign rfl) rfl ?_
  refine WL.nil ?_
  refine QN.thenW ?_
  refine WC.seq ?_
  refine WC.seq ?_
  refine WC.region ?_
  refine WL.pv (pv_move rfl) rfl ?_
  refine WL.pv (pv_eqlP Try.underlying72 rfl rfl (by simp)) rfl ?_
  refine WL.nil ?_
  refine QN.thenW ?_
  refine WC.condF rfl rfl ?_
  refine WC.skip ?_
  refine QN.thenW ?_
  refine WC.seq ?_
  refine WC.region ?_
  refine WL.pv (pv_move rfl) rfl ?_
  refine WL.pv (pv_nil rfl) rfl ?_
  refine WL.pv (pv_fieldAddr fldT_114_1 rfl) rfl ?_
  refine WL.rv (rv_load oneT_111 rfl (hS.fr.cellS (by rw [hb.cell]; rfl) (fun h => h))) rfl ?_
  refine WL.pv (pv_len slS_111 rfl) rfl ?_
  refine WL.pv (pv_assign rfl) rfl ?_
  refine WL.nil ?_
  refine QN.thenW ?_
  refine WC.ret ?_
  refine QN.ret1 rfl rfl ?_
  exact ⟨rfl, hS.fr⟩

set_option maxRecDepth 100000 in
theorem there_c (bd bn : Nat) (vs vp : Value) (n i : Nat) (w0 : World) (hb : Bk w0 bd 114 [vs, .slice (some ⟨bn, 0, none⟩) n n, vp, .int .i64 (-1), .bool false]) (hi : i < n) : Calls Try.prog 97 #[.pointer (some ⟨bd, 0, none⟩), .int .i64 (i : Int)] w0 fun e w => e = .returned (.bool true) ∧ Fr No w0 w := by
  refine calls_of_WC (args := [.pointer (some ⟨bd, 0, none⟩), .int .i64 (i : Int)]) Try.func97 rfl Try.ntmps97 rfl ?_
  show WC _ _ _ _ [(0, .pointer (some ⟨bd, 0, none⟩)), (1, .int .i64 (i : Int))] _
  have hS := ST.start w0 No
  refine WC.seq ?_
  refine WC.region ?_
  refine WL.pv (pv_assign rfl) rfl ?_
  refine WL.nil ?_
  refine QN.thenW ?_
  refine WC.seq ?_
  refine WC.region ?_
  refine WL.pv (pv_move rfl) rfl ?_
  refine WL.pv (pv_geq rfl rfl) rfl ?_
  refine WL.pv (pv_move rfl) rfl ?_
  refine WL.guardT rfl rfl rfl (lkT rfl (by omega)) ?_
  refine WL.pv (pv_move rfl) rfl ?_
  refine WL.guardT rfl rfl rfl (lkT rfl (by omega)) ?_
  refine WL.pv (pv_move rfl) rfl ?_
  refine WL.guardT rfl rfl rfl (lkT rfl (by omega)) ?_
  refine WL.pv (pv_nil rfl) rfl ?_
  refine WL.guardT rfl rfl rfl (lkT rfl (by omega)) ?_
  refine WL.pv (pv_fieldAddr fldT_114_1 rfl) rfl ?_
  refine WL.guardT rfl rfl rfl (lkT rfl (by omega)) ?_
  refine WL.rv (rv_load oneT_111 rfl (hS.fr.cellS (by rw [hb.cell]; rfl) (fun h => h))) rfl ?_
  refine WL.guardT rfl rfl rfl (lkT rfl (by omega)) ?_
  refine WL.pv (pv_len slS_111 rfl) rfl ?_
  refine WL.guardT rfl rfl rfl (lkT rfl (by omega)) ?_
  refine WL.pv (pv_lss rfl rfl) rfl ?_
  refine WL.pv (pv_pick1 (lkT rfl (by omega)) rfl) rfl ?_
  refine WL.pv (pv_assign rfl) rfl ?_
  refine WL.nil ?_
  refine QN.thenW ?_
  refine WC.ret ?_
  refine QN.ret1 rfl rfl ?_
  exact ⟨by rw [decide_eq_true (by omega)], hS.fr⟩

set_option maxRecDepth 100000 in
theorem burn_c (bd bn : Nat) (vs vp : Value) (n : Nat) (w0 : World) (hb : Bk w0 bd 114 [vs, .slice (some ⟨bn, 0, none⟩) n n, vp, .int .i64 (-1), .bool false]) : Calls Try.prog 98 #[.pointer (some ⟨bd, 0, none⟩)] w0 fun e w => e = .returned (.bool true) ∧ Fr No w0 w := by
  refine calls_of_WC (args := [.pointer (some ⟨bd, 0, none⟩)]) Try.func98 rfl Try.ntmps98 rfl ?_
  show WC _ _ _ _ [(0, .pointer (some ⟨bd, 0, none⟩))] _
  have hS := ST.start w0 No
  refine WC.seq ?_
  refine WC.region ?_
  refine WL.pv (pv_assign rfl) rfl ?_
  refine WL.nil ?_
  refine QN.thenW ?_
  refine WC.seq ?_
  refine WC.block ?_
  refine WC.seq ?_
  refine WC.region ?_
  refine WL.pv (pv_move rfl) rfl ?_
  refine WL.pv (pv_nil rfl) rfl ?_
  refine WL.pv (pv_fieldAddr fldT_114_3 rfl) rfl ?_
  refine WL.rv (rv_load oneT_3 rfl (hS.fr.cellS (by rw [hb.cell]; rfl) (fun h => h))) rfl ?_
  refine WL.pv (pv_eql rfl rfl) rfl ?_
  refine WL.pv (pv_assign rfl) rfl ?_
  refine WL.nil ?_
  refine QN.thenW ?_
  refine WC.condDF rfl (by omega) ?_
  refine WC.seq ?_
  refine WC.region ?_
  refine WL.pv (pv_move rfl) rfl ?_
  refine WL.pv (pv_nil rfl) rfl ?_
  refine WL.pv (pv_fieldAddr fldT_114_3 rfl) rfl ?_
  refine WL.rv (rv_load oneT_3 rfl (hS.fr.cellS (by rw [hb.cell]; rfl) (fun h => h))) rfl ?_
  refine WL.pv (pv_gtr rfl rfl) rfl ?_
  refine WL.pv (pv_assign rfl) rfl ?_
  refine WL.nil ?_
  refine QN.thenW ?_
  refine WC.condDF rfl (by omega) ?_
  refine WC.skip ?_
  refine QN.blockN ?_
  refine QN.thenW ?_
  refine WC.seq ?_
  refine WC.region ?_
  refine WL.pv (pv_move rfl) rfl ?_
  refine WL.pv (pv_nil rfl) rfl ?_
  refine WL.pv (pv_fieldAddr fldT_114_4 rfl) rfl ?_
  refine WL.rv (rv_load oneT_4 rfl (hS.fr.cellS (by rw [hb.cell]; rfl) (fun h => h))) rfl ?_
  refine WL.pv (pv_not rfl) rfl ?_
  refine WL.pv (pv_assign rfl) rfl ?_
  refine WL.nil ?_
  refine QN.thenW ?_
  refine WC.ret ?_
  refine QN.ret1 rfl rfl ?_
  exact ⟨rfl, hS.fr⟩

set_option maxRecDepth 100000 in
theorem readK_c (bd bn : Nat) (vs vp : Value) (n : Nat) (ss : List (List UInt8)) (w0 : World) (hb : Bk w0 bd 114 [vs, .slice (some ⟨bn, 0, none⟩) n n, vp, .int .i64 (-1), .bool false]) (hbn : Bk w0 bn 153 (kc ss)) (hd : Dsk n ss) (i : Nat) (hi : i < ss.length) : Calls Try.prog 107 #[.pointer (some ⟨bd, 0, none⟩), .int .i64 (i : Int)] w0 fun e w => ∃ b, e = .returned (.tuple #[.slice (some ⟨b, 0, none⟩) 64 64, .int .i64 0]) ∧ ST w0 No w [.blk b 153 (bs8 ss[i])] := by
  have hl := hd.all _ (List.getElem_mem hi)
  have hdl := hd.len
  have hdle := hd.le
  refine calls_of_WC (args := [.pointer (some ⟨bd, 0, none⟩), .int .i64 (i : Int)]) Try.func107 rfl Try.ntmps107 rfl ?_
  show WC _ _ _ _ [(0, .pointer (some ⟨bd, 0, none⟩)), (1, .int .i64 (i : Int))] _
  have hS := ST.start w0 No
  refine WC.seq ?_
  refine WC.region ?_
  refine WL.pv (pv_assign rfl) rfl ?_
  refine WL.pv (pv_assign rfl) rfl ?_
  refine WL.nil ?_
  refine QN.thenW ?_
  refine WC.seq ?_
  refine WC.block ?_
  refine WC.seq ?_
  refine WC.region ?_
  refine WL.pv (pv_move rfl) rfl ?_
  refine WL.pv (pv_eqlP Try.underlying72 rfl rfl (by simp)) rfl ?_
  refine WL.pv (pv_assign rfl) rfl ?_
  refine WL.nil ?_
  refine QN.thenW ?_
  refine WC.condF rfl rfl ?_
  refine WC.seq ?_
  refine WC.region ?_
  refine WL.pv (pv_move rfl) rfl ?_
  refine WL.pv (pv_move rfl) rfl ?_
  refine WL.call (args := [.tmp 11, .tmp 12]) cf_97 rfl rfl (there_c bd bn vs vp n i _ (hb.fr hS.fr (fun h => h)) (by omega)) ?_
  rintro _ w ⟨rfl, hF⟩
  refine ⟨_, rfl, ?_⟩
  replace hS := hS.no hF
  refine WL.pv (pv_not rfl) rfl ?_
  refine WL.pv (pv_assign rfl) rfl ?_
  refine WL.nil ?_
  refine QN.thenW ?_
  refine WC.condF rfl rfl ?_
  refine WC.skip ?_
  refine QN.blockN ?_
  refine QN.thenW ?_
  refine WC.seq ?_
  refine WC.region ?_
  refine WL.pv (pv_move rfl) rfl ?_
  refine WL.pv (pv_nil rfl) rfl ?_
  refine WL.pv (pv_fieldAddr fldT_114_1 rfl) rfl ?_
  refine WL.rv (rv_load oneT_111 rfl (hS.fr.cellS (by rw [hb.cell]; rfl) (fun h => h))) rfl ?_
  refine WL.pv (pv_move rfl) rfl ?_
  refine WL.pv (pv_indexAddrS (j := i) slT_111 rfl rfl (by omega) (by omega)) rfl ?_
  refine WL.rv (rv_loadA (by rw [aggT_153, bs8_len, hl]) rfl (fun j u hu => by rw [Nat.zero_add]; exact hS.fr.cellS (by rw [hbn.cell]; exact kc_atN hd.all hi hu) (fun h => h))) rfl ?_
  refine WL.alloc hS zeroT_153 rfl ?_
  intro b6 w hb6 hS
  refine WL.storeAll (k := 0) (vs := bs8 ss[i]) hS (by rw [sizeT_153, bs8_len, hl]) rfl rfl rfl bs8_one (by rw [bs8_len, hl]; simp) ?_
  intro w hS
  try simp only [List.set] at hS
  refine WL.nil ?_
  refine QN.thenW ?_
  refine WC.seq ?_
  refine WC.region ?_
  refine WL.pv (pv_sliceW arrT_153 rfl) rfl ?_
  refine WL.pv (pv_assign rfl) rfl ?_
  refine WL.pv (pv_assign rfl) rfl ?_
  refine WL.nil ?_
  refine QN.thenW ?_
  refine WC.ret ?_
  refine QN.ret2 rfl rfl rfl ?_
  exact ⟨_, rfl, hS⟩

set_option maxRecDepth 100000 in
theorem clone99_c (b n : Nat) (ss : List (List UInt8)) (w0 : World) (hb : Bk w0 b 153 (kc ss)) (hd : Dsk n ss) : Calls Try.prog 99 #[.slice (some ⟨b, 0, none⟩) n n] w0 fun e w => ∃ v, e = .returned v ∧ Fr No w0 w ∧ v.oneCell' = true := by
  refine calls_of_WC (args := [.slice (some ⟨b, 0, none⟩) n n]) Try.func99 rfl Try.ntmps99 rfl ?_
  show WC _ _ _ _ [(0, .slice (some ⟨b, 0, none⟩) n n)] _
  have hS := ST.start w0 No
  refine WC.seq ?_
  refine WC.region ?_
  refine WL.pv (pv_assign rfl) rfl ?_
  refine WL.nil ?_
  refine QN.thenW ?_
  refine WC.seq ?_
  refine WC.seq ?_
  refine WC.region ?_
  refine WL.pv (pv_move rfl) rfl ?_
  refine WL.pv (pv_eqlS slS_111 rfl rfl (by simp)) rfl ?_
  refine WL.nil ?_
  refine QN.thenW ?_
  refine WC.condF rfl rfl ?_
  refine WC.skip ?_
  refine QN.thenW ?_
  refine WC.seq ?_
  refine WC.region ?_
  refine WL.build0 hS slT_111 rfl ?_
  intro r w hr hS
  refine WL.pv (pv_move rfl) rfl ?_
  refine WL.append (k := 0) (N := 65536) hS slT_111 zlenT_153 (by decide) rfl rfl rfl (Bk.rsAllN (hb.fr hS.fr (fun h => h)) hd.all hd.len (by simp only [maxLen]; have := hd.le; omega)) kc_one (by rw [hd.all.len, hd.len]; have := hd.le; simp; omega) (by omega) (by simp [maxLen]) rfl ?_
  intro v1 w hFr7 hS
  try simp only [List.set] at hS
  obtain ⟨A8, m8, c8, rfl, _, _, _⟩ := (hS.rw_ (k := 0) rfl).anyForm
  refine WL.pv (pv_assign rfl) rfl ?_
  refine WL.nil ?_
  refine QN.thenW ?_
  refine WC.ret ?_
  refine QN.ret1 rfl rfl ?_
  exact ⟨_, rfl, hS.fr, rfl⟩

set_option maxHeartbeats 1000000 in
set_option maxRecDepth 100000 in
theorem writeK_c (bd bn : Nat) (vs vp : Value) (n : Nat) (ss : List (List UInt8)) (ps : List Value) (w0 : World) (h0 : ST w0 (Ours (esK bd bn vs vp n ss ps)) w0 (esK bd bn vs vp n ss ps)) (hd : Dsk n ss) (i : Nat) (hi : i < ss.length) (B : Option Addr) (c2 : Nat) (bl : List UInt8) (hbl : bl.length = 64) (hl : Rs w0 (.slice B 64 c2) 1 (bs8 bl)) (hN : ∀ b, (Value.slice B 64 c2).ownBlock = some b → ¬ Ours (esK bd bn vs vp n ss ps) b) (hps : ps.length ≤ 65 * 100000) : Calls Try.prog 75 #[.pointer (some ⟨bd, 0, none⟩), .int .i64 (i : Int), .slice B 64 c2] w0 fun e w => e = .returned (.int .i64 0) ∧ ∃ vp' ps', ps'.length = ps.length + 65 ∧ ST w0 (Ours (esK bd bn vs vp n ss ps)) w (esK bd bn vs vp' n (ss.set i bl) ps') := by
  have hdl := hd.len
  have hdle := hd.le
  refine calls_of_WC (args := [.pointer (some ⟨bd, 0, none⟩), .int .i64 (i : Int), .slice B 64 c2]) Try.func75 rfl Try.ntmps75 rfl ?_
  show WC _ _ _ _ [(0, .pointer (some ⟨bd, 0, none⟩)), (1, .int .i64 (i : Int)), (2, .slice B 64 c2)] _
  have hS : ST w0 (Ours (esK bd bn vs vp n ss ps)) w0 (esK bd bn vs vp n ss ps) := h0
  unfold esK at hS
  refine WC.seq ?_
  refine WC.region ?_
  refine WL.pv (pv_assign rfl) rfl ?_
  refine WL.nil ?_
  refine QN.thenW ?_
  refine WC.seq ?_
  refine WC.block ?_
  refine WC.seq ?_
  refine WC.region ?_
  refine WL.pv (pv_move rfl) rfl ?_
  refine WL.pv (pv_eqlP Try.underlying72 rfl rfl (by simp)) rfl ?_
  refine WL.pv (pv_assign rfl) rfl ?_
  refine WL.nil ?_
  refine QN.thenW ?_
  refine WC.condF rfl rfl ?_
  refine WC.seq ?_
  refine WC.region ?_
  refine WL.pv (pv_move rfl) rfl ?_
  refine WL.pv (pv_nil rfl) rfl ?_
  refine WL.pv (pv_fieldAddrZ fldT_114_4 rfl) rfl ?_
  refine WL.rv (rv_load_blk (k := 0) hS oneT_4 rfl rfl rfl) rfl ?_
  refine WL.pv (pv_assign rfl) rfl ?_
  refine WL.nil ?_
  refine QN.thenW ?_
  refine WC.condF rfl rfl ?_
  refine WC.seq ?_
  refine WC.region ?_
  refine WL.pv (pv_move rfl) rfl ?_
  refine WL.pv (pv_move rfl) rfl ?_
  refine WL.call (args := [.tmp 17, .tmp 18]) cf_97 rfl rfl (there_c bd bn vs vp n i _ (hS.bk (k := 0) rfl) (by omega)) ?_
  rintro _ w ⟨rfl, hF⟩
  refine ⟨_, rfl, ?_⟩
  replace hS := hS.no hF
  refine WL.pv (pv_not rfl) rfl ?_
  refine WL.pv (pv_assign rfl) rfl ?_
  refine WL.nil ?_
  refine QN.thenW ?_
  refine WC.condF rfl rfl ?_
  refine WC.seq ?_
  refine WC.region ?_
  refine WL.pv (pv_move rfl) rfl ?_
  refine WL.pv (pv_len slS_22 rfl) rfl ?_
  refine WL.pv (pv_neq rfl rfl) rfl ?_
  refine WL.pv (pv_assign rfl) rfl ?_
  refine WL.nil ?_
  refine QN.thenW ?_
  refine WC.condDF rfl (by simp) ?_
  refine WC.seq ?_
  refine WC.region ?_
  refine WL.pv (pv_move rfl) rfl ?_
  refine WL.call (args := [.tmp 26]) cf_98 rfl rfl (burn_c bd bn vs vp n _ (hS.bk (k := 0) rfl)) ?_
  rintro _ w ⟨rfl, hF⟩
  refine ⟨_, rfl, ?_⟩
  replace hS := hS.no hF
  refine WL.pv (pv_not rfl) rfl ?_
  refine WL.pv (pv_assign rfl) rfl ?_
  refine WL.nil ?_
  refine QN.thenW ?_
  refine WC.condF rfl rfl ?_
  refine WC.skip ?_
  refine QN.blockN ?_
  refine QN.thenW ?_
  refine WC.seq ?_
  refine WC.region ?_
  refine WL.pv (pv_move rfl) rfl ?_
  refine WL.pv (pv_s2ap arrT_153 rfl (by omega)) rfl ?_
  have hl2 := hl.fr hS.fr hN
  obtain ⟨bb, ob, rfl, _, _, _, hcb⟩ := hl2.at_ (by rw [bs8_len]; omega)
  refine WL.rv (rv_loadA (by rw [aggT_153, bs8_len, hbl]) rfl (fun j u hu => hcb j u hu)) rfl ?_
  refine WL.alloc hS zeroT_153 rfl ?_
  intro b7 w hb7 hS
  refine WL.storeAll (k := 0) (vs := bs8 bl) hS (by rw [sizeT_153, bs8_len, hbl]) rfl rfl rfl bs8_one (by rw [bs8_len, hbl]; simp) ?_
  intro w hS
  try simp only [List.set] at hS
  refine WL.nil ?_
  refine QN.thenW ?_
  refine WC.seq ?_
  refine WC.stillTail 7 mixedO (by kernel_rfl) ?_
  have hS := hS.no (Fr.drew _)
  refine WS.pv (pv_move rfl) rfl ?_
  refine WS.pv (pv_nil rfl) rfl ?_
  refine WS.pv (pv_fieldAddrZ fldT_114_1 rfl) rfl ?_
  refine WS.rv (rv_load_blk (k := 1) hS oneT_111 rfl rfl rfl) rfl ?_
  refine WS.pv (pv_move rfl) rfl ?_
  refine WS.rv (rv_load_all (k := 0) hS rfl rfl (by rw [aggT_153, bs8_len, hbl])) rfl ?_
  refine WS.pv (pv_indexAddrS (j := i) slT_111 rfl rfl (by omega) (by omega)) rfl ?_
  refine WS.tail ?_
  refine WL.storeA (k := 2) (vs := bs8 bl) hS (by rw [sizeT_153, bs8_len, hbl]) rfl rfl rfl bs8_one (by rw [bs8_len, hbl, hd.all.len]; omega) ?_
  intro w hS
  try simp only [List.set] at hS
  rw [Nat.zero_add, bs8_len, hbl, kc_set hd.all hi] at hS
  refine WL.nil ?_
  refine QN.thenW ?_
  refine WC.seq ?_
  refine WC.draw (S := fun w => Bk w b7 153 (bs8 bl)) (fuel := 13) (listed := #[false, false, false, false, false, false, false, false, false, false, false, false, false]) mixedO rfl rfl ?_
  have hS := hS.no (Fr.drew _)
  refine WH.take (listed' := #[true, false, false, false, false, false, false, false, false, false, false, false, false]) 0 rfl (by kernel_rfl) (by kernel_rfl) (by kernel_rfl) (fun _ _ _ h => h) rfl (fun w _ => PV.rv (pv_move rfl) w) (hS.bk (k := 0) rfl) rfl ?_
  refine WH.take (listed' := #[true, true, false, false, false, false, false, false, false, false, false, false, false]) 1 rfl (by kernel_rfl) (by kernel_rfl) (by kernel_rfl) (fun _ _ _ h => h) rfl (fun w _ => PV.rv (pv_move rfl) w) (hS.bk (k := 0) rfl) rfl ?_
  refine WH.take (listed' := #[true, true, true, false, false, false, false, false, false, false, false, false, false]) 2 rfl (by kernel_rfl) (by kernel_rfl) (by kernel_rfl) (fun _ _ _ h => h) rfl (fun w _ => PV.rv (pv_nil rfl) w) (hS.bk (k := 0) rfl) rfl ?_
  refine WH.take (listed' := #[true, true, true, true, false, false, false, false, false, false, false, false, false]) 3 rfl (by kernel_rfl) (by kernel_rfl) (by kernel_rfl) (fun _ _ _ h => h) rfl (fun w _ => PV.rv (pv_fieldAddrZ fldT_114_2 rfl) w) (hS.bk (k := 0) rfl) rfl ?_
  refine WH.take (listed' := #[true, true, true, true, false, true, false, false, false, false, false, false, false]) 5 rfl (by kernel_rfl) (by kernel_rfl) (by kernel_rfl) (fun _ _ _ h => h) rfl (fun w _ => PV.rv (pv_move rfl) w) (hS.bk (k := 0) rfl) rfl ?_
  refine WH.take (listed' := #[true, true, true, true, false, true, true, false, false, false, false, false, false]) 6 rfl (by kernel_rfl) (by kernel_rfl) (by kernel_rfl) (fun _ _ _ h => h) rfl (fun w hS => rv_loadA (by rw [aggT_153, bs8_len, hbl]) rfl (fun j u hu => by rw [Nat.zero_add, Bk.cell hS]; exact hu)) (hS.bk (k := 0) rfl) rfl ?_
  refine WH.take (listed' := #[true, true, true, true, false, true, true, true, false, false, false, false, false]) 7 rfl (by kernel_rfl) (by kernel_rfl) (by kernel_rfl) (fun _ _ _ h => h) rfl (fun w _ => PV.rv (pv_buildS (parts := [(0, .tmp 44), (1, .tmp 45)]) (cells := .int .i64 (i : Int) :: bs8 bl) layT_155 zeroT_155 rfl (fill_two (n0 := 1) (n1 := 64) (c0 := [.int .i64 (i : Int)]) (c1 := bs8 bl) (by simp) rfl rfl rfl (by rw [bs8_len, hbl]))) w) (hS.bk (k := 0) rfl) rfl ?_
  refine WH.two (m1 := #[true, true, true, true, true, true, true, true, false, false, false, false, false]) (m2 := #[true, true, true, true, false, true, true, true, true, false, false, false, false]) 4 8 rfl rfl (by kernel_rfl) rfl rfl ?_ ?_
  · skip
    refine WL.rv (rv_load_blk (k := 1) hS oneT_112 rfl rfl rfl) rfl ?_
    refine WL.nil ?_
    refine QN.held (hS.bk (k := 0) rfl) ?_
    refine WH.one (listed' := #[true, true, true, true, true, true, true, true, true, false, false, false, false]) 8 rfl (by kernel_rfl) rfl ?_
    refine WL.build1A (vs := (.int .i64 (i : Int) :: bs8 bl)) hS slT_112 zeroT_155 (by simp) rfl (by simp [bs8_len, hbl]) rfl rfl rfl ?_
    intro b47 w hb47 hS
    refine WL.nil ?_
    refine QN.held (hS.bk (k := 1) rfl) ?_
    refine WH.one (listed' := #[true, true, true, true, true, true, true, true, true, true, false, false, false]) 9 rfl (by kernel_rfl) rfl ?_
    refine WL.append (k := 4) (N := 200000) hS slT_112 zlenT_155 (by decide) rfl rfl rfl ((hS.bk (k := 0) rfl).rs 0 1 1 65 (by omega) (by simp [maxLen]) (by simp [bs8_len, hbl])) (one65 _ _) (by simp [bs8_len, hbl]; omega) (by omega) (by simp [maxLen]) rfl ?_
    intro v48 w hFr48 hS
    try simp only [List.set] at hS
    obtain ⟨A8, m8, c8, rfl, _, _, _⟩ := (hS.rw_ (k := 4) rfl).anyForm
    refine WL.nil ?_
    refine QN.held (hS.bk (k := 1) rfl) ?_
    refine WH.take (listed' := #[true, true, true, true, true, true, true, true, true, true, true, false, false]) 10 rfl (by kernel_rfl) (by kernel_rfl) (by kernel_rfl) (fun _ _ _ h => h) rfl (fun w _ => PV.rv (pv_nil rfl) w) (hS.bk (k := 1) rfl) rfl ?_
    refine WH.take (listed' := #[true, true, true, true, true, true, true, true, true, true, true, true, false]) 11 rfl (by kernel_rfl) (by kernel_rfl) (by kernel_rfl) (fun _ _ _ h => h) rfl (fun w _ => PV.rv (pv_fieldAddrZ fldT_114_2 rfl) w) (hS.bk (k := 1) rfl) rfl ?_
    refine WH.one (listed' := #[true, true, true, true, true, true, true, true, true, true, true, true, true]) 12 rfl (by kernel_rfl) rfl ?_
    refine WL.store (k := 2) hS sizeT_112 rfl rfl rfl rfl (by simp) ?_
    intro w hS
    try simp only [List.set] at hS
    refine WL.nil ?_
    refine QN.held (hS.bk (k := 1) rfl) ?_
    refine WH.done (by kernel_rfl) ?_
    refine QN.thenW ?_
    refine WC.seq ?_
    refine WC.region ?_
    refine WL.pv (pv_assign rfl) rfl ?_
    refine WL.nil ?_
    refine QN.thenW ?_
    refine WC.ret ?_
    refine QN.ret1 rfl rfl ?_
    have hS2 := (hS.erase 0).erase 0
    simp only [List.eraseIdx_zero, List.tail_cons] at hS2
    exact ⟨rfl, _, _, by simp [bs8_len, hbl], hS2⟩
  · skip
    refine WL.build1A (vs := (.int .i64 (i : Int) :: bs8 bl)) hS slT_112 zeroT_155 (by simp) rfl (by simp [bs8_len, hbl]) rfl rfl rfl ?_
    intro b47 w hb47 hS
    refine WL.nil ?_
    refine QN.held (hS.bk (k := 1) rfl) ?_
    refine WH.one (listed' := #[true, true, true, true, true, true, true, true, true, false, false, false, false]) 4 rfl (by kernel_rfl) rfl ?_
    refine WL.rv (rv_load_blk (k := 2) hS oneT_112 rfl rfl rfl) rfl ?_
    refine WL.nil ?_
    refine QN.held (hS.bk (k := 1) rfl) ?_
    refine WH.one (listed' := #[true, true, true, true, true, true, true, true, true, true, false, false, false]) 9 rfl (by kernel_rfl) rfl ?_
    refine WL.append (k := 4) (N := 200000) hS slT_112 zlenT_155 (by decide) rfl rfl rfl ((hS.bk (k := 0) rfl).rs 0 1 1 65 (by omega) (by simp [maxLen]) (by simp [bs8_len, hbl])) (one65 _ _) (by simp [bs8_len, hbl]; omega) (by omega) (by simp [maxLen]) rfl ?_
    intro v48 w hFr48 hS
    try simp only [List.set] at hS
    obtain ⟨A8, m8, c8, rfl, _, _, _⟩ := (hS.rw_ (k := 4) rfl).anyForm
    refine WL.nil ?_
    refine QN.held (hS.bk (k := 1) rfl) ?_
    refine WH.take (listed' := #[true, true, true, true, true, true, true, true, true, true, true, false, false]) 10 rfl (by kernel_rfl) (by kernel_rfl) (by kernel_rfl) (fun _ _ _ h => h) rfl (fun w _ => PV.rv (pv_nil rfl) w) (hS.bk (k := 1) rfl) rfl ?_
    refine WH.take (listed' := #[true, true, true, true, true, true, true, true, true, true, true, true, false]) 11 rfl (by kernel_rfl) (by kernel_rfl) (by kernel_rfl) (fun _ _ _ h => h) rfl (fun w _ => PV.rv (pv_fieldAddrZ fldT_114_2 rfl) w) (hS.bk (k := 1) rfl) rfl ?_
    refine WH.one (listed' := #[true, true, true, true, true, true, true, true, true, true, true, true, true]) 12 rfl (by kernel_rfl) rfl ?_
    refine WL.store (k := 2) hS sizeT_112 rfl rfl rfl rfl (by simp) ?_
    intro w hS
    try simp only [List.set] at hS
    refine WL.nil ?_
    refine QN.held (hS.bk (k := 1) rfl) ?_
    refine WH.done (by kernel_rfl) ?_
    refine QN.thenW ?_
    refine WC.seq ?_
    refine WC.region ?_
    refine WL.pv (pv_assign rfl) rfl ?_
    refine WL.nil ?_
    refine QN.thenW ?_
    refine WC.ret ?_
    refine QN.ret1 rfl rfl ?_
    have hS2 := (hS.erase 0).erase 0
    simp only [List.eraseIdx_zero, List.tail_cons] at hS2
    exact ⟨rfl, _, _, by simp [bs8_len, hbl], hS2⟩

set_option maxRecDepth 100000 in
theorem syncK_c (bd bn : Nat) (vs vp : Value) (n : Nat) (ss : List (List UInt8)) (ps : List Value) (w0 : World) (h0 : ST w0 (Ours (esK bd bn vs vp n ss ps)) w0 (esK bd bn vs vp n ss ps)) (hd : Dsk n ss) : Calls Try.prog 76 #[.pointer (some ⟨bd, 0, none⟩)] w0 fun e w => e = .returned (.int .i64 0) ∧ ∃ vs' vp', ST w0 (Ours (esK bd bn vs vp n ss ps)) w (esK bd bn vs' vp' n ss []) := by
  refine calls_of_WC (args := [.pointer (some ⟨bd, 0, none⟩)]) Try.func76 rfl Try.ntmps76 rfl ?_
  show WC _ _ _ _ [(0, .pointer (some ⟨bd, 0, none⟩))] _
  have hS : ST w0 (Ours (esK bd bn vs vp n ss ps)) w0 (esK bd bn vs vp n ss ps) := h0
  unfold esK at hS
  refine WC.seq ?_
  refine WC.region ?_
  refine WL.pv (pv_assign rfl) rfl ?_
  refine WL.nil ?_
  refine QN.thenW ?_
  refine WC.seq ?_
  refine WC.block ?_
  refine WC.seq ?_
  refine WC.region ?_
  refine WL.pv (pv_move rfl) rfl ?_
  refine WL.pv (pv_eqlP Try.underlying72 rfl rfl (by simp)) rfl ?_
  refine WL.pv (pv_assign rfl) rfl ?_
  refine WL.nil ?_
  refine QN.thenW ?_
  refine WC.condF rfl rfl ?_
  refine WC.seq ?_
  refine WC.region ?_
  refine WL.pv (pv_move rfl) rfl ?_
  refine WL.pv (pv_nil rfl) rfl ?_
  refine WL.pv (pv_fieldAddrZ fldT_114_4 rfl) rfl ?_
  refine WL.rv (rv_load_blk (k := 0) hS oneT_4 rfl rfl rfl) rfl ?_
  refine WL.pv (pv_move rfl) rfl ?_
  refine WL.guardT rfl rfl rfl (lkB rfl rfl) ?_
  refine WL.pv (pv_move rfl) rfl ?_
  refine WL.guardT rfl rfl rfl (lkB rfl rfl) ?_
  refine WL.call (args := [.tmp 12]) cf_98 rfl rfl (burn_c bd bn vs vp n _ (hS.bk (k := 0) rfl)) ?_
  rintro _ w ⟨rfl, hF⟩
  refine ⟨_, rfl, ?_⟩
  replace hS := hS.no hF
  refine WL.guardT rfl rfl rfl (lkB rfl rfl) ?_
  refine WL.pv (pv_not rfl) rfl ?_
  refine WL.pv (pv_pick0 (lkB rfl rfl) rfl) rfl ?_
  refine WL.pv (pv_assign rfl) rfl ?_
  refine WL.nil ?_
  refine QN.thenW ?_
  refine WC.condF rfl rfl ?_
  refine WC.skip ?_
  refine QN.blockN ?_
  refine QN.thenW ?_
  refine WC.seq ?_
  refine WC.region ?_
  refine WL.pv (pv_move rfl) rfl ?_
  refine WL.pv (pv_move rfl) rfl ?_
  refine WL.pv (pv_nil rfl) rfl ?_
  refine WL.pv (pv_fieldAddrZ fldT_114_1 rfl) rfl ?_
  refine WL.rv (rv_load_blk (k := 0) hS oneT_111 rfl rfl rfl) rfl ?_
  refine WL.call (args := [.tmp 20]) cf_99 rfl rfl (clone99_c bn n ss _ (hS.bk (k := 1) rfl) hd) ?_
  rintro _ w ⟨v21, rfl, hF, hone⟩
  refine ⟨_, rfl, ?_⟩
  replace hS := hS.no hF
  refine WL.pv (pv_nil rfl) rfl ?_
  refine WL.pv (pv_fieldAddrZ fldT_114_0 rfl) rfl ?_
  refine WL.store (k := 0) hS sizeT_111 rfl rfl rfl hone (by simp) ?_
  intro w hS
  try simp only [List.set] at hS
  refine WL.nil ?_
  refine QN.thenW ?_
  refine WC.seq ?_
  refine WC.region ?_
  refine WL.pv (pv_move rfl) rfl ?_
  refine WL.pv (pv_nil rfl) rfl ?_
  refine WL.pv (pv_fieldAddrZ fldT_114_2 rfl) rfl ?_
  refine WL.store (k := 0) hS sizeT_112 rfl rfl rfl rfl (by simp) ?_
  intro w hS
  try simp only [List.set] at hS
  refine WL.nil ?_
  refine QN.thenW ?_
  refine WC.seq ?_
  refine WC.region ?_
  refine WL.pv (pv_assign rfl) rfl ?_
  refine WL.nil ?_
  refine QN.thenW ?_
  refine WC.ret ?_
  refine QN.ret1 rfl rfl ?_
  have hS2 := (hS.erase 2).addNil 155 65
  simp only [List.eraseIdx_zero, List.eraseIdx_cons_succ, List.tail_cons] at hS2
  exact ⟨rfl, _, _, hS2.perm (.trans (.swap _ _ _) (.cons _ (.swap _ _ _)))⟩

end Go.Proofs.Ytjcebkhhgdgohaa
namespace Go.Proofs.Ytjcebkhhgdgohaa
open Go Go.RowKit Go.Eng
theorem cf_111 : callable Try.prog 111 = true := by kernel_rfl

/-- A small number, put. -/
def smallB (x : UInt64) : List UInt8 := if x.toNat < 251 then [x.toUInt8] else UInt8.ofNat (250 + widN x.toNat) :: beB x (widN x.toNat)
def textB (t : List UInt8) : List UInt8 := smallB (UInt64.ofNat t.length) ++ t
theorem smallB_le (x : UInt64) : (smallB x).length ≤ 9 := by
  unfold smallB
  split
  · simp
  · have := wid64 x; simp [beB_len]; omega
theorem textB_le (t : List UInt8) : (textB t).length ≤ t.length + 9 := by
  have := smallB_le (UInt64.ofNat t.length)
  rw [textB, List.length_append]; omega
def recH (num : UInt64) (s1 s2 : List UInt8) : List UInt8 := beB num 8 ++ textB s1 ++ textB s2
/-- A record. -/
def recB (num : UInt64) (s1 s2 : List UInt8) : List UInt8 := recH num s1 s2 ++ shaV (recH num s1 s2)
theorem shr32_zero {x : UInt64} (h : x.toNat < 4294967296) : (x >>> UInt64.ofNat 32).toNat = 0 := by
  rw [UInt64.toNat_shiftRight, show (UInt64.ofNat 32).toNat % 64 = 32 from by decide, Nat.shiftRight_eq_div_pow]; omega
theorem ofNat_toNat {n : Nat} (h : n < 18446744073709551616) : (UInt64.ofNat n).toNat = n := by rw [UInt64.toNat_ofNat']; omega


theorem own2 {w0 w : World} {bw : Nat} {v v' : Value} {cs xs : List Value} (hS : ST w0 (fun b => b = bw ∨ v.ownBlock = some b) w [.blk bw 103 cs, .row v' 5 1 xs]) : ∀ b, v'.ownBlock = some b → v.ownBlock = some b ∨ w0.heap.size ≤ b := fun b hb' => by
  rcases hS.own' (i := 1) rfl hb' with h | h | h
  · exact .inr h
  · exact absurd hb' (hS.sep' (i := 0) (j := 1) rfl rfl (by omega) (b := b) (by rw [h]; rfl))
  · exact .inl h

set_option maxRecDepth 100000 in
theorem small_c (bw : Nat) (v : Value) (l : List UInt8) (x : UInt64) (w0 : World) (hd : Bk w0 bw 103 [v]) (hr : Rw w0 v 5 1 (bs8 l)) (hx : x.toNat < 4294967296) (hn : l.length ≤ 1000000) : Calls Try.prog 111 #[.pointer (some ⟨bw, 0, none⟩), w64 x] w0 (PutPost bw v (l ++ smallB x) (.int .i64 0) w0) := by
  have hw8 := wid64 x
  refine calls_of_WC (args := [.pointer (some ⟨bw, 0, none⟩), w64 x]) Try.func111 rfl Try.ntmps111 rfl ?_
  show WC _ _ _ _ [(0, .pointer (some ⟨bw, 0, none⟩)), (1, w64 x)] _
  have hS : ST w0 (fun b => b = bw ∨ v.ownBlock = some b) w0 [.blk bw 103 [v], .row v 5 1 (bs8 l)] := ST.both hd hr (fun b hb => .inl (by simpa [Ent.block] using hb.symm)) (fun b hb => .inr hb) (fun b hb => by have := hr.ne hd (by decide); simp [Ent.block] at hb; subst hb; exact this)
  refine WC.seq ?_
  refine WC.region ?_
  refine WL.pv (pv_assign rfl) rfl ?_
  refine WL.nil ?_
  refine QN.thenW ?_
  refine WC.seq ?_
  refine WC.block ?_
  refine WC.seq ?_
  refine WC.region ?_
  refine WL.pv (pv_move rfl) rfl ?_
  refine WL.pv (pv_eqlP Try.underlying138 rfl rfl (by simp)) rfl ?_
  refine WL.pv (pv_assign rfl) rfl ?_
  refine WL.nil ?_
  refine QN.thenW ?_
  refine WC.condF rfl rfl ?_
  refine WC.seq ?_
  refine WC.region ?_
  refine WL.pv (pv_move rfl) rfl ?_
  refine WL.pv (pv_shr64 (c := 32) rfl rfl (by omega)) rfl ?_
  refine WL.pv (pv_neq rfl rfl) rfl ?_
  refine WL.pv (pv_assign rfl) rfl ?_
  refine WL.nil ?_
  refine QN.thenW ?_
  refine WC.condDF rfl (by rw [shr32_zero hx]; simp) ?_
  refine WC.seq ?_
  refine WC.region ?_
  refine WL.pv (pv_move rfl) rfl ?_
  refine WL.pv (pv_lss rfl rfl) rfl ?_
  refine WL.pv (pv_assign rfl) rfl ?_
  refine WL.nil ?_
  refine QN.thenW ?_
  refine WC.condD rfl (fun hc13 => ?_) (fun hc13 => ?_)
  · skip
    have hsm : smallB x = [x.toUInt8] := by rw [smallB, if_pos (by omega)]
    refine WC.seq ?_
    refine WC.region ?_
    refine WL.pv (pv_move rfl) rfl ?_
    refine WL.pv (pv_move rfl) rfl ?_
    refine WL.pv (pv_conv someT_86 Try.underlying5 rfl (cv_64_8 _)) rfl ?_
    refine WL.build1 hS slT_22 zeroT_5 rfl rfl rfl rfl ?_
    intro b19 w hb19 hS
    refine WL.call (args := [.tmp 16, .tmp 19]) cf_86 rfl rfl (put_c bw _ _ ([x.toUInt8]) _ _ _ _ (hS.bk (k := 1) rfl) (hS.rw_ (k := 2) rfl) ((hS.bk (k := 0) rfl).rs 0 1 1 1 (by omega) (by simp [maxLen]) (by simp)) (by simp; omega)) ?_
    rintro _ w ⟨rfl, hF, v9, hB, hR1, ho⟩
    refine ⟨_, rfl, ?_⟩
    replace hS := hS.upd2 (i := 1) (j := 2) rfl rfl hF hB hR1 ho
    simp only [List.set] at hS
    refine WL.nil ?_
    refine QN.thenW ?_
    refine WC.seq ?_
    refine WC.region ?_
    refine WL.pv (pv_assign rfl) rfl ?_
    refine WL.nil ?_
    refine QN.thenW ?_
    refine WC.ret ?_
    refine QN.blockR ?_
    refine QN.thenR ?_
    refine QN.ret1 rfl rfl ?_
    have hS2 := hS.drop
    exact ⟨rfl, hS2.fr, _, hS2.bk (k := 0) rfl, (by rw [hsm]; exact hS2.rw_ (k := 1) rfl), own2 hS2⟩
  · skip
    have hsm : smallB x = UInt8.ofNat (250 + widN x.toNat) :: beB x (widN x.toNat) := by rw [smallB, if_neg (by omega)]
    refine WC.skip ?_
    refine QN.blockN ?_
    refine QN.thenW ?_
    refine WC.seq ?_
    refine WC.region ?_
    refine WL.pv (pv_move rfl) rfl ?_
    refine WL.call (args := [.tmp 21]) cf_85 rfl rfl (width_c x _) ?_
    rintro _ w ⟨rfl, hF⟩
    refine ⟨_, rfl, ?_⟩
    replace hS := hS.no hF
    refine WL.pv (pv_assign rfl) rfl ?_
    refine WL.nil ?_
    refine QN.thenW ?_
    refine WC.seq ?_
    refine WC.region ?_
    refine WL.pv (pv_move rfl) rfl ?_
    refine WL.pv (pv_move rfl) rfl ?_
    refine WL.pv (pv_add rfl rfl (by omega)) rfl ?_
    refine WL.pv (pv_sub rfl rfl (by omega)) rfl ?_
    refine WL.pv (pv_conv someT_3 Try.underlying5 rfl ((congrArg IntKind.u8.wrap (show (251 + (widN x.toNat : Int) - 1) = ((250 + widN x.toNat : Nat) : Int) from by omega)).trans (cv_i_8 _))) rfl ?_
    refine WL.build1 hS slT_22 zeroT_5 rfl rfl rfl rfl ?_
    intro b28 w hb28 hS
    refine WL.call (args := [.tmp 23, .tmp 28]) cf_86 rfl rfl (put_c bw _ _ ([UInt8.ofNat (250 + widN x.toNat)]) _ _ _ _ (hS.bk (k := 1) rfl) (hS.rw_ (k := 2) rfl) ((hS.bk (k := 0) rfl).rs 0 1 1 1 (by omega) (by simp [maxLen]) (by simp)) (by simp; omega)) ?_
    rintro _ w ⟨rfl, hF, v9, hB, hR1, ho⟩
    refine ⟨_, rfl, ?_⟩
    replace hS := hS.upd2 (i := 1) (j := 2) rfl rfl hF hB hR1 ho
    simp only [List.set] at hS
    refine WL.nil ?_
    refine QN.thenW ?_
    refine WC.seq ?_
    refine WC.region ?_
    refine WL.pv (pv_move rfl) rfl ?_
    refine WL.pv (pv_move rfl) rfl ?_
    refine WL.pv (pv_move rfl) rfl ?_
    refine WL.call (args := [.tmp 31, .tmp 32]) cf_87 rfl rfl (spread_b x (widN x.toNat) _ hw8) ?_
    rintro _ w ⟨vx, rfl, hF, hRx, hfx⟩
    refine ⟨_, rfl, ?_⟩
    replace hS := hS.no hF
    obtain ⟨gx, mx, cx, rfl, _, _, _⟩ := hRx.anyForm
    refine WL.call (args := [.tmp 30, .tmp 33]) cf_86 rfl rfl (put_c bw _ _ (beB x (widN x.toNat)) _ _ _ _ (hS.bk (k := 1) rfl) (hS.rw_ (k := 2) rfl) hRx.rs (by simp [beB_len]; omega)) ?_
    rintro _ w ⟨rfl, hF, v9, hB, hR1, ho⟩
    refine ⟨_, rfl, ?_⟩
    replace hS := hS.upd2 (i := 1) (j := 2) rfl rfl hF hB hR1 ho
    simp only [List.set] at hS
    refine WL.nil ?_
    refine QN.thenW ?_
    refine WC.seq ?_
    refine WC.region ?_
    refine WL.pv (pv_assign rfl) rfl ?_
    refine WL.nil ?_
    refine QN.thenW ?_
    refine WC.ret ?_
    refine QN.ret1 rfl rfl ?_
    have hS2 := hS.drop
    exact ⟨rfl, hS2.fr, _, hS2.bk (k := 0) rfl, (by rw [hsm, show l ++ (UInt8.ofNat (250 + widN x.toNat) :: beB x (widN x.toNat)) = l ++ [UInt8.ofNat (250 + widN x.toNat)] ++ beB x (widN x.toNat) from by simp]; exact hS2.rw_ (k := 1) rfl), own2 hS2⟩

set_option maxRecDepth 100000 in
theorem text_c (bw : Nat) (v : Value) (l : List UInt8) (A : Option Addr) (m c : Nat) (t : List UInt8) (w0 : World) (hd : Bk w0 bw 103 [v]) (hr : Rw w0 v 5 1 (bs8 l)) (ht : Rs w0 (.slice A m c) 1 (bs8 t)) (hN : 0 < (bs8 t).length → ∀ b, (Value.slice A m c).ownBlock = some b → ¬ (b = bw ∨ v.ownBlock = some b)) (hl : t.length ≤ 65536) (hn : l.length ≤ 900000) : Calls Try.prog 95 #[.pointer (some ⟨bw, 0, none⟩), .slice A m c] w0 (PutPost bw v (l ++ textB t) (.int .i64 0) w0) := by
  have hln := ht.len
  rw [bs8_len] at hln
  have hlm : t.length = m := by omega
  refine calls_of_WC (args := [.pointer (some ⟨bw, 0, none⟩), .slice A m c]) Try.func95 rfl Try.ntmps95 rfl ?_
  show WC _ _ _ _ [(0, .pointer (some ⟨bw, 0, none⟩)), (1, .slice A m c)] _
  have hS : ST w0 (fun b => b = bw ∨ v.ownBlock = some b) w0 [.blk bw 103 [v], .row v 5 1 (bs8 l)] := ST.both hd hr (fun b hb => .inl (by simpa [Ent.block] using hb.symm)) (fun b hb => .inr hb) (fun b hb => by have := hr.ne hd (by decide); simp [Ent.block] at hb; subst hb; exact this)
  refine WC.seq ?_
  refine WC.region ?_
  refine WL.pv (pv_assign rfl) rfl ?_
  refine WL.nil ?_
  refine QN.thenW ?_
  refine WC.seq ?_
  refine WC.block ?_
  refine WC.seq ?_
  refine WC.region ?_
  refine WL.pv (pv_move rfl) rfl ?_
  refine WL.pv (pv_eqlP Try.underlying138 rfl rfl (by simp)) rfl ?_
  refine WL.pv (pv_assign rfl) rfl ?_
  refine WL.nil ?_
  refine QN.thenW ?_
  refine WC.condF rfl rfl ?_
  refine WC.seq ?_
  refine WC.region ?_
  refine WL.pv (pv_move rfl) rfl ?_
  refine WL.pv (pv_len slS_22 rfl) rfl ?_
  refine WL.pv (pv_gtr rfl rfl) rfl ?_
  refine WL.pv (pv_assign rfl) rfl ?_
  refine WL.nil ?_
  refine QN.thenW ?_
  refine WC.condDF rfl (by omega) ?_
  refine WC.skip ?_
  refine QN.blockN ?_
  refine QN.thenW ?_
  refine WC.seq ?_
  refine WC.region ?_
  refine WL.pv (pv_move rfl) rfl ?_
  refine WL.pv (pv_move rfl) rfl ?_
  refine WL.pv (pv_len slS_22 rfl) rfl ?_
  refine WL.pv (pv_conv someT_3 Try.underlying86 rfl (cv_i_64 _)) rfl ?_
  refine WL.call (args := [.tmp 12, .tmp 15]) cf_111 rfl rfl (small_c bw _ _ (UInt64.ofNat m) _ (hS.bk (k := 0) rfl) (hS.rw_ (k := 1) rfl) (by rw [ofNat_toNat (by omega)]; omega) (by omega)) ?_
  rintro _ w ⟨rfl, hF, v9, hB, hR1, ho⟩
  refine ⟨_, rfl, ?_⟩
  replace hS := hS.upd2 (i := 0) (j := 1) rfl rfl hF hB hR1 ho
  simp only [List.set] at hS
  have hsl := smallB_le (UInt64.ofNat m)
  refine WL.nil ?_
  refine QN.thenW ?_
  refine WC.seq ?_
  refine WC.region ?_
  refine WL.pv (pv_move rfl) rfl ?_
  refine WL.pv (pv_move rfl) rfl ?_
  refine WL.call (args := [.tmp 17, .tmp 18]) cf_86 rfl rfl (put_c bw _ _ t _ _ _ _ (hS.bk (k := 0) rfl) (hS.rw_ (k := 1) rfl) (ht.frN hS.fr hN) (by simp; omega)) ?_
  rintro _ w ⟨rfl, hF, v10, hB, hR1, ho⟩
  refine ⟨_, rfl, ?_⟩
  replace hS := hS.upd2 (i := 0) (j := 1) rfl rfl hF hB hR1 ho
  simp only [List.set] at hS
  refine WL.nil ?_
  refine QN.thenW ?_
  refine WC.seq ?_
  refine WC.region ?_
  refine WL.pv (pv_assign rfl) rfl ?_
  refine WL.nil ?_
  refine QN.thenW ?_
  refine WC.ret ?_
  refine QN.ret1 rfl rfl ?_
  have hS2 := hS
  exact ⟨rfl, hS2.fr, _, hS2.bk (k := 0) rfl, (by rw [textB, hlm, ← List.append_assoc]; exact hS2.rw_ (k := 1) rfl), own2 hS2⟩


theorem notW {w0 w : World} {bw sz s : Nat} {v x : Value} {t u : TypeId} {cs xs l : List Value} {hp : List Ent} (h : ST w0 No w (.row v t sz xs :: .blk bw u cs :: hp)) (hv : Rs w0 x s l) : 0 < l.length → ∀ b, x.ownBlock = some b → ¬ (b = bw ∨ v.ownBlock = some b) := fun h0 b hb hc => by
  refine h.notOurs hv h0 hb ?_
  rcases hc with rfl | hc
  · exact ⟨.blk b u cs, by simp, rfl⟩
  · exact ⟨.row v t sz xs, by simp, hc⟩

end Go.Proofs.Ytjcebkhhgdgohaa
namespace Go.Proofs.Ytjcebkhhgdgohaa
open Go Go.RowKit Go.Eng
theorem aggT_78 : aggT Try.prog 78 = some 2 := by kernel_rfl
theorem cf_100 : callable Try.prog 100 = true := by kernel_rfl
theorem cf_112 : callable Try.prog 112 = true := by kernel_rfl
theorem cf_117 : callable Try.prog 117 = true := by kernel_rfl
theorem cf_78 : callable Try.prog 78 = true := by kernel_rfl
theorem cf_95 : callable Try.prog 95 = true := by kernel_rfl
theorem fldT_78_0 : fldT Try.prog 78 0 = some 0 := by kernel_rfl
theorem fldT_78_1 : fldT Try.prog 78 1 = some 1 := by kernel_rfl
theorem layT_78 : layOf Try.prog 78 = some [(0, 1), (1, 1)] := by kernel_rfl
theorem sizeT_78 : sizeT Try.prog 78 = some 2 := by kernel_rfl
theorem zeroT_78 : zeroT Try.prog 78 = some ([.slice none 0 0, .slice none 0 0]) := by kernel_rfl

/-- A state of its own. -/
def OwnSt (s1 s2 : List UInt8) (w0 : World) (e : Ending) (w : World) : Prop :=
  ∃ v1 v2, e = .returned (.agg #[v1, v2]) ∧ ST w0 No w [.row v2 5 1 (bs8 s2), .row v1 5 1 (bs8 s1)]
theorem own_of {w0 w : World} {hp : List Ent} {k sz : Nat} {v : Value} {t : TypeId} {xs : List Value} (h : ST w0 No w hp) (hk : hp[k]? = some (.row v t sz xs)) : ∀ b, v.ownBlock = some b → w0.heap.size ≤ b := fun b hb => by
  rcases h.own' hk hb with h | h
  · exact h
  · exact h.elim
theorem num8_le (num : UInt64) : widN num.toNat ≤ 8 := wid64 num
theorem recH_le (num : UInt64) {s1 s2 : List UInt8} (h1 : s1.length ≤ 4000) (h2 : s2.length ≤ 4000) : (recH num s1 s2).length ≤ 8030 := by
  have a := textB_le s1
  have b := textB_le s2
  simp only [recH, List.length_append, beB_len]; omega

set_option maxRecDepth 100000 in
theorem own_c (A1 A2 : Option Addr) (m1 c1 m2 c2 : Nat) (s1 s2 : List UInt8) (w0 : World) (h1 : Rs w0 (.slice A1 m1 c1) 1 (bs8 s1)) (h2 : Rs w0 (.slice A2 m2 c2) 1 (bs8 s2)) (hl1 : s1.length ≤ 4000) (hl2 : s2.length ≤ 4000) : Calls Try.prog 77 #[.agg #[.slice A1 m1 c1, .slice A2 m2 c2]] w0 (OwnSt s1 s2 w0) := by
  refine calls_of_WC (args := [.agg #[.slice A1 m1 c1, .slice A2 m2 c2]]) Try.func77 rfl Try.ntmps77 rfl ?_
  show WC _ _ _ _ [(0, .agg #[.slice A1 m1 c1, .slice A2 m2 c2])] _
  have hS := ST.start w0 No
  refine WC.seq ?_
  refine WC.region ?_
  refine WL.box (vs := [.slice A1 m1 c1, .slice A2 m2 c2]) hS rfl rfl rfl ?_
  intro b1 w hb1 hS
  refine WL.alloc hS zeroT_78 rfl ?_
  intro b2 w hb2 hS
  refine WL.nil ?_
  refine QN.thenW ?_
  refine WC.seq ?_
  refine WC.draw (S := fun w => Bk w b1 78 [.slice A1 m1 c1, .slice A2 m2 c2]) (fuel := 8) (listed := #[false, false, false, false, false, false, false, false]) mixedO rfl rfl ?_
  have hS := hS.no (Fr.drew _)
  refine WH.take (listed' := #[true, false, false, false, false, false, false, false]) 0 rfl (by kernel_rfl) (by kernel_rfl) (by kernel_rfl) (fun _ _ _ h => h) rfl (fun w _ => PV.rv (pv_fieldAddrZ fldT_78_0 rfl) w) (hS.bk (k := 1) rfl) rfl ?_
  refine WH.take (listed' := #[true, true, false, false, false, false, false, false]) 1 rfl (by kernel_rfl) (by kernel_rfl) (by kernel_rfl) (fun _ _ _ h => h) rfl (fun w hS => rv_load oneT_22 rfl (by rw [Bk.cell hS]; rfl)) (hS.bk (k := 1) rfl) rfl ?_
  refine WH.take (listed' := #[true, true, false, true, false, false, false, false]) 3 rfl (by kernel_rfl) (by kernel_rfl) (by kernel_rfl) (fun _ _ _ h => h) rfl (fun w _ => PV.rv (pv_fieldAddrZ fldT_78_1 rfl) w) (hS.bk (k := 1) rfl) rfl ?_
  refine WH.take (listed' := #[true, true, false, true, true, false, false, false]) 4 rfl (by kernel_rfl) (by kernel_rfl) (by kernel_rfl) (fun _ _ _ h => h) rfl (fun w hS => rv_load oneT_22 rfl (by rw [Bk.cell hS]; rfl)) (hS.bk (k := 1) rfl) rfl ?_
  refine WH.one (listed' := #[true, true, true, true, true, false, false, false]) 2 rfl (by kernel_rfl) rfl ?_
  refine WL.call (args := [.tmp 4]) cf_88 rfl rfl (clone_c _ _ _ s1 _ (h1.no hS.fr) (by omega)) ?_
  rintro _ w ⟨v5, rfl, hF, hR5, hf5⟩
  refine ⟨_, rfl, ?_⟩
  replace hS := hS.add (e := .row v5 5 1 _) hF hR5 hf5
  obtain ⟨A59, m59, c59, rfl, _, _, _⟩ := hR5.anyForm
  refine WL.nil ?_
  refine QN.held (hS.bk (k := 2) rfl) ?_
  refine WH.one (listed' := #[true, true, true, true, true, true, false, false]) 5 rfl (by kernel_rfl) rfl ?_
  refine WL.call (args := [.tmp 7]) cf_88 rfl rfl (clone_c _ _ _ s2 _ (h2.no hS.fr) (by omega)) ?_
  rintro _ w ⟨v8, rfl, hF, hR8, hf8⟩
  refine ⟨_, rfl, ?_⟩
  replace hS := hS.add (e := .row v8 5 1 _) hF hR8 hf8
  obtain ⟨A89, m89, c89, rfl, _, _, _⟩ := hR8.anyForm
  refine WL.nil ?_
  refine QN.held (hS.bk (k := 3) rfl) ?_
  refine WH.take (listed' := #[true, true, true, true, true, true, true, false]) 6 rfl (by kernel_rfl) (by kernel_rfl) (by kernel_rfl) (fun _ _ _ h => h) rfl (fun w _ => PV.rv (pv_buildS (parts := [(0, .tmp 5), (1, .tmp 8)]) layT_78 zeroT_78 rfl rfl) w) (hS.bk (k := 3) rfl) rfl ?_
  refine WH.one (listed' := #[true, true, true, true, true, true, true, true]) 7 rfl (by kernel_rfl) rfl ?_
  refine WL.storeAll (k := 2) (vs := [.slice A59 m59 c59, .slice A89 m89 c89]) hS (by rw [sizeT_78]; simp) rfl rfl rfl (by first | (simp; done) | simp [Value.oneCell']) (by simp) ?_
  intro w hS
  try simp only [List.set] at hS
  refine WL.nil ?_
  refine QN.held (hS.bk (k := 3) rfl) ?_
  refine WH.done (by kernel_rfl) ?_
  refine QN.thenW ?_
  refine WC.ret ?_
  refine QN.retK (k := 2) rfl rfl hS rfl (by rw [aggT_78]; simp) ?_
  have hS2 := (hS.erase 2).erase 2
  simp only [List.eraseIdx_zero, List.eraseIdx_cons_succ, List.tail_cons] at hS2
  exact ⟨_, _, rfl, hS2⟩

set_option maxRecDepth 100000 in
theorem told_c (num : UInt64) (A1 A2 : Option Addr) (m1 c1 m2 c2 : Nat) (s1 s2 : List UInt8) (w0 : World) (h1 : Rs w0 (.slice A1 m1 c1) 1 (bs8 s1)) (h2 : Rs w0 (.slice A2 m2 c2) 1 (bs8 s2)) (hl1 : s1.length ≤ 4000) (hl2 : s2.length ≤ 4000) : Calls Try.prog 73 #[w64 num, .agg #[.slice A1 m1 c1, .slice A2 m2 c2]] w0 (OwnPost (bs8 (recB num s1 s2)) 5 w0) := by
  have a1 := textB_le s1
  have a2 := textB_le s2
  have a3 := recH_le num hl1 hl2
  refine calls_of_WC (args := [w64 num, .agg #[.slice A1 m1 c1, .slice A2 m2 c2]]) Try.func73 rfl Try.ntmps73 rfl ?_
  show WC _ _ _ _ [(0, w64 num), (1, .agg #[.slice A1 m1 c1, .slice A2 m2 c2])] _
  have hS := ST.start w0 No
  refine WC.seq ?_
  refine WC.region ?_
  refine WL.box (vs := [.slice A1 m1 c1, .slice A2 m2 c2]) hS rfl rfl rfl ?_
  intro b3 w hb3 hS
  refine WL.pv (pv_assign rfl) rfl ?_
  refine WL.nil ?_
  refine QN.thenW ?_
  refine WC.seq ?_
  refine WC.region ?_
  refine WL.alloc hS zeroT_103 rfl ?_
  intro b5 w hb5 hS
  refine WL.nil ?_
  refine QN.thenW ?_
  refine WC.seq ?_
  refine WC.region ?_
  refine WL.pv (pv_move rfl) rfl ?_
  replace hS := hS.addNil 5 1
  refine WL.call (args := [.tmp 5, .tmp 8, .const (.int .i64 8)]) cf_65 rfl rfl (num_c b5 (.slice none 0 0) [] num 8 _ (hS.bk (k := 1) rfl) (hS.rw_ (k := 0) rfl) (by omega) (by omega) (wid64 num) (by simp)) ?_
  rintro _ w ⟨rfl, hF, v9, hB, hR1, ho⟩
  refine ⟨_, rfl, ?_⟩
  replace hS := hS.upd2 (i := 1) (j := 0) rfl rfl hF hB hR1 ho
  simp only [List.set] at hS
  refine WL.nil ?_
  refine QN.thenW ?_
  refine WC.seq ?_
  refine WC.region ?_
  refine WL.pv (pv_fieldAddrZ fldT_78_0 rfl) rfl ?_
  refine WL.rv (rv_load_blk (k := 2) hS oneT_22 rfl rfl rfl) rfl ?_
  refine WL.call (args := [.tmp 5, .tmp 11]) cf_95 rfl rfl (text_c b5 _ _ _ _ _ s1 _ (hS.bk (k := 1) rfl) (hS.rw_ (k := 0) rfl) (h1.no hS.fr) (fun h0 b hb => notW hS h1 h0 b hb) (by omega) (by simp only [List.length_append, List.length_nil, beB_len]; omega)) ?_
  rintro _ w ⟨rfl, hF, v9, hB, hR1, ho⟩
  refine ⟨_, rfl, ?_⟩
  replace hS := hS.upd2 (i := 1) (j := 0) rfl rfl hF hB hR1 ho
  simp only [List.set] at hS
  refine WL.nil ?_
  refine QN.thenW ?_
  refine WC.seq ?_
  refine WC.region ?_
  refine WL.pv (pv_fieldAddrZ fldT_78_1 rfl) rfl ?_
  refine WL.rv (rv_load_blk (k := 2) hS oneT_22 rfl rfl rfl) rfl ?_
  refine WL.call (args := [.tmp 5, .tmp 14]) cf_95 rfl rfl (text_c b5 _ _ _ _ _ s2 _ (hS.bk (k := 1) rfl) (hS.rw_ (k := 0) rfl) (h2.no hS.fr) (fun h0 b hb => notW hS h2 h0 b hb) (by omega) (by simp only [List.length_append, List.length_nil, beB_len]; omega)) ?_
  rintro _ w ⟨rfl, hF, v9, hB, hR1, ho⟩
  refine ⟨_, rfl, ?_⟩
  replace hS := hS.upd2 (i := 1) (j := 0) rfl rfl hF hB hR1 ho
  simp only [List.set] at hS
  refine WL.nil ?_
  refine QN.thenW ?_
  refine WC.seq ?_
  refine WC.region ?_
  refine WL.call (args := [.tmp 5]) cf_66 rfl rfl (out_c b5 _ _ _ (hS.bk (k := 1) rfl) (hS.rw_ (k := 0) rfl) (by simp only [List.length_append, List.length_nil, beB_len]; omega)) ?_
  rintro _ w ⟨vb, rfl, hF, hRb, hfb⟩
  refine ⟨_, rfl, ?_⟩
  replace hS := hS.add (e := .row vb 5 1 _) hF hRb hfb
  obtain ⟨A8, m8, c8, rfl, _, _, _⟩ := hRb.anyForm
  rw [show [] ++ beB num 8 ++ textB s1 ++ textB s2 = recH num s1 s2 from by simp [recH]] at hS hRb
  refine WL.pv (pv_assign rfl) rfl ?_
  refine WL.nil ?_
  refine QN.thenW ?_
  refine WC.seq ?_
  refine WC.region ?_
  refine WL.pv (pv_move rfl) rfl ?_
  refine WL.call (args := [.tmp 17]) cf_20 rfl rfl (sum_c _ _ _ (recH num s1 s2) _ (hS.rw_ (k := 0) rfl).rs) ?_
  rintro _ w ⟨rfl, hF⟩
  refine ⟨_, rfl, ?_⟩
  replace hS := hS.no hF
  refine WL.alloc hS zeroT_25 rfl ?_
  intro b7 w hb7 hS
  refine WL.storeAll (k := 0) (vs := bs8 (shaV (recH num s1 s2))) hS (by rw [sizeT_25, bs8_len, shaV_len]) rfl rfl rfl bs8_one (by rw [bs8_len, shaV_len]; simp) ?_
  intro w hS
  try simp only [List.set] at hS
  refine WL.nil ?_
  refine QN.thenW ?_
  refine WC.seq ?_
  refine WC.region ?_
  refine WL.pv (pv_move rfl) rfl ?_
  refine WL.pv (pv_sliceW arrT_25 rfl) rfl ?_
  refine WL.append (k := 1) (N := 65536) hS slT_22 zlenT_5 (by decide) rfl rfl rfl (Bk.rsAll (hS.bk (k := 0) rfl) (shaV_len _) (by simp [maxLen])) bs8_one (by rw [bs8_len, bs8_len, shaV_len]; omega) (by omega) (by simp [maxLen]) rfl ?_
  intro v21 w hFr21 hS
  try simp only [List.set] at hS
  rw [← bs8_app] at hS
  refine WL.pv (pv_assign rfl) rfl ?_
  refine WL.nil ?_
  refine QN.thenW ?_
  refine WC.ret ?_
  refine QN.ret1 rfl rfl ?_
  exact ⟨_, rfl, hS.fr, hS.rw_ (k := 1) rfl, own_of hS (k := 1) rfl⟩

set_option maxRecDepth 100000 in
theorem refWidth_c (x : UInt64) (w0 : World) : Calls Try.prog 117 #[w64 x] w0 fun e w => e = .returned (.int .i64 (widN x.toNat : Int)) ∧ Fr No w0 w := by
  refine calls_of_WC (args := [w64 x]) Try.func117 rfl Try.ntmps117 rfl ?_
  show WC _ _ _ _ [(0, w64 x)] _
  have hS := ST.start w0 No
  refine WC.seq ?_
  refine WC.region ?_
  refine WL.pv (pv_assign rfl) rfl ?_
  refine WL.nil ?_
  refine QN.thenW ?_
  refine WC.seq ?_
  refine WC.region ?_
  refine WL.pv (pv_assign rfl) rfl ?_
  refine WL.nil ?_
  refine QN.thenW ?_
  refine WC.seq ?_
  refine WC.block ?_
  refine WC.loop (α := Nat × UInt64) (fun s => [(0, w64 s.2), (3, .int .i64 (s.1 : Int))]) (fun s w => s.1 + wid0 (s.2.toNat / 256) = widN x.toNat ∧ ST w0 No w []) (fun s => s.2.toNat) ((1, x)) (Sub.cons rfl (Sub.cons rfl Sub.nil)) ⟨rfl, hS⟩ ?_
  rintro ⟨n, y⟩ w N hN hR
  change N = y.toNat at hN
  change n + wid0 (y.toNat / 256) = widN x.toNat ∧ ST w0 No w [] at hR
  show WC _ _ _ _ [(0, w64 y), (3, .int .i64 (n : Int))] _
  obtain ⟨hn, hS⟩ := hR
  have h8 := wid64 x
  refine WC.seq ?_
  refine WC.seq ?_
  refine WC.region ?_
  refine WL.pv (pv_move rfl) rfl ?_
  refine WL.pv (pv_gtr rfl rfl) rfl ?_
  refine WL.nil ?_
  refine QN.thenW ?_
  refine WC.condD rfl (fun hc5 => ?_) (fun hc5 => ?_)
  · skip
    have hpos : 255 < y.toNat := by omega
    refine WC.skip ?_
    refine QN.thenW ?_
    refine WC.block ?_
    refine WC.seq ?_
    refine WC.region ?_
    refine WL.pv (pv_move rfl) rfl ?_
    refine WL.pv (pv_quo64u (b := 256) rfl rfl (by decide)) rfl ?_
    refine WL.pv (pv_assign rfl) rfl ?_
    refine WL.nil ?_
    refine QN.thenW ?_
    refine WC.region ?_
    refine WL.pv (pv_move rfl) rfl ?_
    refine WL.pv (pv_add rfl rfl (by omega)) rfl ?_
    refine WL.pv (pv_assign rfl) rfl ?_
    refine WL.nil ?_
    refine QN.blockN ?_
    refine QN.roundE ?_
    refine ⟨((n + 1, y / 256)), (Sub.cons rfl (Sub.cons rfl Sub.nil)), ⟨by show n + 1 + wid0 _ = _; rw [UInt64.toNat_div, show (256 : UInt64).toNat = 256 from rfl, ← hn, wid0_pos (x := y.toNat / 256) (by omega)]; omega, hS⟩, ?_⟩
    (show (y / 256).toNat < N; rw [UInt64.toNat_div, show (256 : UInt64).toNat = 256 from rfl]; omega)
  · skip
    have hy0 : y.toNat / 256 = 0 := by omega
    rw [hy0, wid0_zero] at hn
    refine WC.exit ?_
    refine QN.thenX ?_
    refine QN.thenX ?_
    refine QN.blockX ?_
    refine QN.thenW ?_
    refine WC.seq ?_
    refine WC.region ?_
    refine WL.pv (pv_move rfl) rfl ?_
    refine WL.pv (pv_assign rfl) rfl ?_
    refine WL.nil ?_
    refine QN.thenW ?_
    refine WC.ret ?_
    refine QN.ret1 rfl rfl ?_
    exact ⟨by rw [show (n : Int) = (widN x.toNat : Int) from by omega], hS.fr⟩


def OwnPost2 (cs : List Value) (t : TypeId) (w0 : World) (e : Ending) (w : World) : Prop := ∃ v, e = .returned (.tuple #[v, .int .i64 0]) ∧ Fr No w0 w ∧ Rw w v t 1 cs ∧ ∀ b, v.ownBlock = some b → w0.heap.size ≤ b

set_option maxRecDepth 100000 in
theorem refSmall_c (x : UInt64) (w0 : World) (hx : x.toNat < 4294967296) : Calls Try.prog 112 #[w64 x] w0 (OwnPost2 (bs8 (smallB x)) 5 w0) := by
  have hw8 := wid64 x
  refine calls_of_WC (args := [w64 x]) Try.func112 rfl Try.ntmps112 rfl ?_
  show WC _ _ _ _ [(0, w64 x)] _
  have hS := ST.start w0 No
  refine WC.seq ?_
  refine WC.region ?_
  refine WL.pv (pv_assign rfl) rfl ?_
  refine WL.pv (pv_assign rfl) rfl ?_
  refine WL.nil ?_
  refine QN.thenW ?_
  refine WC.seq ?_
  refine WC.seq ?_
  refine WC.region ?_
  refine WL.pv (pv_move rfl) rfl ?_
  refine WL.pv (pv_geq rfl rfl) rfl ?_
  refine WL.nil ?_
  refine QN.thenW ?_
  refine WC.condDF rfl (by omega) ?_
  refine WC.skip ?_
  refine QN.thenW ?_
  refine WC.seq ?_
  refine WC.region ?_
  refine WL.pv (pv_assign rfl) rfl ?_
  refine WL.nil ?_
  refine QN.thenW ?_
  refine WC.seq ?_
  refine WC.seq ?_
  replace hS := hS.addNil 5 1
  refine WC.region ?_
  refine WL.pv (pv_move rfl) rfl ?_
  refine WL.pv (pv_lss rfl rfl) rfl ?_
  refine WL.nil ?_
  refine QN.thenW ?_
  refine WC.condD rfl (fun hc9 => ?_) (fun hc9 => ?_)
  · skip
    have hsm : smallB x = [x.toUInt8] := by rw [smallB, if_pos (by omega)]
    refine WC.seq ?_
    refine WC.region ?_
    refine WL.pv (pv_move rfl) rfl ?_
    refine WL.pv (pv_move rfl) rfl ?_
    refine WL.pv (pv_conv someT_86 Try.underlying5 rfl (cv_64_8 _)) rfl ?_
    refine WL.build1 hS slT_22 zeroT_5 rfl rfl rfl rfl ?_
    intro b13 w hb13 hS
    refine WL.append (k := 1) (N := 65536) hS slT_22 zlenT_5 (by decide) rfl rfl rfl (show Rs _ _ 1 (bs8 [x.toUInt8]) from (hS.bk (k := 0) rfl).rs 0 1 1 1 (by omega) (by simp [maxLen]) (by simp)) bs8_one (by simp [bs8_len]) (by omega) (by simp [maxLen]) rfl ?_
    intro v14 w hFr14 hS
    try simp only [List.set] at hS
    rw [List.nil_append] at hS
    refine WL.pv (pv_assign rfl) rfl ?_
    refine WL.nil ?_
    refine QN.thenW ?_
    refine WC.seq ?_
    refine WC.region ?_
    refine WL.pv (pv_move rfl) rfl ?_
    refine WL.pv (pv_assign rfl) rfl ?_
    refine WL.pv (pv_assign rfl) rfl ?_
    refine WL.nil ?_
    refine QN.thenW ?_
    refine WC.ret ?_
    refine QN.thenR ?_
    refine QN.ret2 rfl rfl rfl ?_
    exact ⟨_, rfl, hS.fr, (by rw [hsm]; exact hS.rw_ (k := 1) rfl), own_of hS (k := 1) rfl⟩
  · skip
    have hsm : smallB x = UInt8.ofNat (250 + widN x.toNat) :: beB x (widN x.toNat) := by rw [smallB, if_neg (by omega)]
    refine WC.skip ?_
    refine QN.thenW ?_
    refine WC.seq ?_
    refine WC.region ?_
    refine WL.pv (pv_move rfl) rfl ?_
    refine WL.call (args := [.tmp 16]) cf_117 rfl rfl (refWidth_c x _) ?_
    rintro _ w ⟨rfl, hF⟩
    refine ⟨_, rfl, ?_⟩
    replace hS := hS.no hF
    refine WL.pv (pv_assign rfl) rfl ?_
    refine WL.nil ?_
    refine QN.thenW ?_
    refine WC.seq ?_
    refine WC.region ?_
    refine WL.pv (pv_move rfl) rfl ?_
    refine WL.pv (pv_move rfl) rfl ?_
    refine WL.pv (pv_add rfl rfl (by omega)) rfl ?_
    refine WL.pv (pv_conv someT_3 Try.underlying5 rfl ((congrArg IntKind.u8.wrap (show (250 + (widN x.toNat : Int)) = ((250 + widN x.toNat : Nat) : Int) from by omega)).trans (cv_i_8 _))) rfl ?_
    refine WL.build1 hS slT_22 zeroT_5 rfl rfl rfl rfl ?_
    intro b22 w hb22 hS
    refine WL.append (k := 1) (N := 65536) hS slT_22 zlenT_5 (by decide) rfl rfl rfl (show Rs _ _ 1 (bs8 [UInt8.ofNat (250 + widN x.toNat)]) from (hS.bk (k := 0) rfl).rs 0 1 1 1 (by omega) (by simp [maxLen]) (by simp)) bs8_one (by simp [bs8_len]) (by omega) (by simp [maxLen]) rfl ?_
    intro v23 w hFr23 hS
    try simp only [List.set] at hS
    rw [List.nil_append] at hS
    refine WL.pv (pv_assign rfl) rfl ?_
    refine WL.nil ?_
    refine QN.thenW ?_
    refine WC.seq ?_
    refine WC.region ?_
    refine WL.pv (pv_move rfl) rfl ?_
    refine WL.pv (pv_move rfl) rfl ?_
    refine WL.pv (pv_move rfl) rfl ?_
    refine WL.call (args := [.tmp 25, .tmp 26]) cf_61 rfl rfl (beBytes_c x (widN x.toNat) _ hw8) ?_
    rintro _ w ⟨vx, rfl, hF, hRx, hfx⟩
    refine ⟨_, rfl, ?_⟩
    replace hS := hS.no hF
    obtain ⟨gx, mx, cx, rfl, _, _, _⟩ := hRx.anyForm
    refine WL.append (k := 1) (N := 65536) hS slT_22 zlenT_5 (by decide) rfl rfl rfl hRx.rs bs8_one (by rw [bs8_len, bs8_len, beB_len]; simp; omega) (by omega) (by simp [maxLen]) rfl ?_
    intro v28 w hFr28 hS
    try simp only [List.set] at hS
    rw [← bs8_app] at hS
    refine WL.pv (pv_assign rfl) rfl ?_
    refine WL.nil ?_
    refine QN.thenW ?_
    refine WC.seq ?_
    refine WC.region ?_
    refine WL.pv (pv_move rfl) rfl ?_
    refine WL.pv (pv_assign rfl) rfl ?_
    refine WL.pv (pv_assign rfl) rfl ?_
    refine WL.nil ?_
    refine QN.thenW ?_
    refine WC.ret ?_
    refine QN.ret2 rfl rfl rfl ?_
    exact ⟨_, rfl, hS.fr, (by rw [hsm]; exact hS.rw_ (k := 1) rfl), own_of hS (k := 1) rfl⟩

set_option maxRecDepth 100000 in
theorem refText_c (A : Option Addr) (m c : Nat) (t : List UInt8) (w0 : World) (ht : Rs w0 (.slice A m c) 1 (bs8 t)) (hl : t.length ≤ 4000) : Calls Try.prog 100 #[.slice A m c] w0 (OwnPost2 (bs8 (textB t)) 5 w0) := by
  have hln := ht.len
  rw [bs8_len] at hln
  have hlm : t.length = m := by omega
  refine calls_of_WC (args := [.slice A m c]) Try.func100 rfl Try.ntmps100 rfl ?_
  show WC _ _ _ _ [(0, .slice A m c)] _
  have hS := ST.start w0 No
  refine WC.seq ?_
  refine WC.region ?_
  refine WL.pv (pv_assign rfl) rfl ?_
  refine WL.pv (pv_assign rfl) rfl ?_
  refine WL.nil ?_
  refine QN.thenW ?_
  refine WC.seq ?_
  refine WC.seq ?_
  refine WC.region ?_
  refine WL.pv (pv_move rfl) rfl ?_
  refine WL.pv (pv_len slS_22 rfl) rfl ?_
  refine WL.pv (pv_gtr rfl rfl) rfl ?_
  refine WL.nil ?_
  refine QN.thenW ?_
  refine WC.condDF rfl (by omega) ?_
  refine WC.skip ?_
  refine QN.thenW ?_
  refine WC.seq ?_
  refine WC.region ?_
  refine WL.pv (pv_move rfl) rfl ?_
  refine WL.pv (pv_len slS_22 rfl) rfl ?_
  refine WL.pv (pv_conv someT_3 Try.underlying86 rfl (cv_i_64 _)) rfl ?_
  refine WL.call (args := [.tmp 12]) cf_112 rfl rfl (refSmall_c (UInt64.ofNat m) _ (by rw [ofNat_toNat (by omega)]; omega)) ?_
  rintro _ w ⟨v13, rfl, hF, hRb, hfb⟩
  refine ⟨_, rfl, ?_⟩
  replace hS := hS.add (e := .row v13 5 1 _) hF hRb hfb
  obtain ⟨A8, m8, c8, rfl, _, _, _⟩ := hRb.anyForm
  have hsl := smallB_le (UInt64.ofNat m)
  refine WL.pv (pv_move rfl) rfl ?_
  refine WL.pv (pv_extL rfl rfl) rfl ?_
  refine WL.pv (pv_extL rfl rfl) rfl ?_
  refine WL.pv (pv_assign rfl) rfl ?_
  refine WL.pv (pv_assign rfl) rfl ?_
  refine WL.nil ?_
  refine QN.thenW ?_
  refine WC.seq ?_
  refine WC.region ?_
  refine WL.pv (pv_move rfl) rfl ?_
  refine WL.pv (pv_move rfl) rfl ?_
  refine WL.append (k := 0) (N := 65536) hS slT_22 zlenT_5 (by decide) rfl rfl rfl (ht.no hS.fr) bs8_one (by rw [bs8_len, bs8_len]; omega) (by omega) (by simp [maxLen]) rfl ?_
  intro v18 w hFr18 hS
  try simp only [List.set] at hS
  rw [← bs8_app] at hS
  refine WL.pv (pv_assign rfl) rfl ?_
  refine WL.nil ?_
  refine QN.thenW ?_
  refine WC.seq ?_
  refine WC.region ?_
  refine WL.pv (pv_move rfl) rfl ?_
  refine WL.pv (pv_assign rfl) rfl ?_
  refine WL.pv (pv_assign rfl) rfl ?_
  refine WL.nil ?_
  refine QN.thenW ?_
  refine WC.ret ?_
  refine QN.ret2 rfl rfl rfl ?_
  exact ⟨_, rfl, hS.fr, (by rw [textB, hlm]; exact hS.rw_ (k := 0) rfl), own_of hS (k := 0) rfl⟩

set_option maxRecDepth 100000 in
theorem record_c (num : UInt64) (A1 A2 : Option Addr) (m1 c1 m2 c2 : Nat) (s1 s2 : List UInt8) (w0 : World) (h1 : Rs w0 (.slice A1 m1 c1) 1 (bs8 s1)) (h2 : Rs w0 (.slice A2 m2 c2) 1 (bs8 s2)) (hl1 : s1.length ≤ 4000) (hl2 : s2.length ≤ 4000) : Calls Try.prog 78 #[w64 num, .agg #[.slice A1 m1 c1, .slice A2 m2 c2]] w0 (OwnPost (bs8 (recB num s1 s2)) 5 w0) := by
  have a1 := textB_le s1
  have a2 := textB_le s2
  have a3 := recH_le num hl1 hl2
  refine calls_of_WC (args := [w64 num, .agg #[.slice A1 m1 c1, .slice A2 m2 c2]]) Try.func78 rfl Try.ntmps78 rfl ?_
  show WC _ _ _ _ [(0, w64 num), (1, .agg #[.slice A1 m1 c1, .slice A2 m2 c2])] _
  have hS := ST.start w0 No
  refine WC.seq ?_
  refine WC.region ?_
  refine WL.box (vs := [.slice A1 m1 c1, .slice A2 m2 c2]) hS rfl rfl rfl ?_
  intro b3 w hb3 hS
  refine WL.pv (pv_assign rfl) rfl ?_
  refine WL.nil ?_
  refine QN.thenW ?_
  refine WC.seq ?_
  refine WC.region ?_
  refine WL.pv (pv_move rfl) rfl ?_
  refine WL.call (args := [.tmp 11, .const (.int .i64 8)]) cf_61 rfl rfl (beBytes_c num 8 _ (by omega)) ?_
  rintro _ w ⟨v12, rfl, hF, hRb, hfb⟩
  refine ⟨_, rfl, ?_⟩
  replace hS := hS.add (e := .row v12 5 1 _) hF hRb hfb
  obtain ⟨A12, m12, c12, rfl, _, _, _⟩ := hRb.anyForm
  refine WL.pv (pv_assign rfl) rfl ?_
  refine WL.nil ?_
  refine QN.thenW ?_
  refine WC.seq ?_
  refine WC.region ?_
  refine WL.pv (pv_fieldAddrZ fldT_78_0 rfl) rfl ?_
  refine WL.rv (rv_load_blk (k := 1) hS oneT_22 rfl rfl rfl) rfl ?_
  refine WL.call (args := [.tmp 15]) cf_100 rfl rfl (refText_c _ _ _ s1 _ (h1.no hS.fr) (by omega)) ?_
  rintro _ w ⟨v16, rfl, hF, hRb, hfb⟩
  refine ⟨_, rfl, ?_⟩
  replace hS := hS.add (e := .row v16 5 1 _) hF hRb hfb
  obtain ⟨A169, m169, c169, rfl, _, _, _⟩ := hRb.anyForm
  refine WL.pv (pv_move rfl) rfl ?_
  refine WL.pv (pv_extL rfl rfl) rfl ?_
  refine WL.pv (pv_extL rfl rfl) rfl ?_
  refine WL.pv (pv_assign rfl) rfl ?_
  refine WL.pv (pv_assign rfl) rfl ?_
  refine WL.nil ?_
  refine QN.thenW ?_
  refine WC.seq ?_
  refine WC.region ?_
  refine WL.pv (pv_fieldAddrZ fldT_78_1 rfl) rfl ?_
  refine WL.rv (rv_load_blk (k := 2) hS oneT_22 rfl rfl rfl) rfl ?_
  refine WL.call (args := [.tmp 21]) cf_100 rfl rfl (refText_c _ _ _ s2 _ (h2.no hS.fr) (by omega)) ?_
  rintro _ w ⟨v22, rfl, hF, hRb, hfb⟩
  refine ⟨_, rfl, ?_⟩
  replace hS := hS.add (e := .row v22 5 1 _) hF hRb hfb
  obtain ⟨A229, m229, c229, rfl, _, _, _⟩ := hRb.anyForm
  refine WL.pv (pv_move rfl) rfl ?_
  refine WL.pv (pv_extL rfl rfl) rfl ?_
  refine WL.pv (pv_extL rfl rfl) rfl ?_
  refine WL.pv (pv_assign rfl) rfl ?_
  refine WL.pv (pv_assign rfl) rfl ?_
  refine WL.nil ?_
  refine QN.thenW ?_
  refine WC.seq ?_
  refine WC.region ?_
  refine WL.pv (pv_move rfl) rfl ?_
  refine WL.pv (pv_move rfl) rfl ?_
  refine WL.append (k := 2) (N := 65536) hS slT_22 zlenT_5 (by decide) rfl rfl rfl (hS.rw_ (k := 1) rfl).rs bs8_one (by rw [bs8_len, bs8_len, beB_len]; omega) (by omega) (by simp [maxLen]) rfl ?_
  intro v27 w hFr27 hS
  try simp only [List.set] at hS
  rw [← bs8_app] at hS
  refine WL.pv (pv_assign rfl) rfl ?_
  refine WL.nil ?_
  refine QN.thenW ?_
  refine WC.seq ?_
  refine WC.region ?_
  refine WL.pv (pv_move rfl) rfl ?_
  refine WL.pv (pv_move rfl) rfl ?_
  refine WL.append (k := 2) (N := 65536) hS slT_22 zlenT_5 (by decide) rfl rfl rfl (hS.rw_ (k := 0) rfl).rs bs8_one (by simp only [bs8_len, List.length_append, beB_len]; omega) (by omega) (by simp [maxLen]) rfl ?_
  intro v30 w hFr30 hS
  try simp only [List.set] at hS
  rw [← bs8_app, show beB num 8 ++ textB s1 ++ textB s2 = recH num s1 s2 from rfl] at hS
  obtain ⟨A30, m30, c30, rfl, _, _, _⟩ := (hS.rw_ (k := 2) rfl).anyForm
  refine WL.pv (pv_assign rfl) rfl ?_
  refine WL.nil ?_
  refine QN.thenW ?_
  refine WC.seq ?_
  refine WC.region ?_
  refine WL.pv (pv_move rfl) rfl ?_
  refine WL.call (args := [.tmp 31]) cf_21 rfl rfl (refSum_c _ _ _ (recH num s1 s2) _ (hS.rw_ (k := 2) rfl).rs (by omega)) ?_
  rintro _ w ⟨rfl, hF⟩
  refine ⟨_, rfl, ?_⟩
  replace hS := hS.no hF
  rw [← sha_eq]
  refine WL.call (args := [.tmp 32]) cf_63 rfl rfl (refBytes_c (shaV (recH num s1 s2)) (shaV_len _) _) ?_
  rintro _ w ⟨v33, rfl, hF, hRx, hfx⟩
  refine ⟨_, rfl, ?_⟩
  replace hS := hS.no hF
  obtain ⟨gx, mx, cx, rfl, _, _, _⟩ := hRx.anyForm
  refine WL.pv (pv_assign rfl) rfl ?_
  refine WL.nil ?_
  refine QN.thenW ?_
  refine WC.seq ?_
  refine WC.region ?_
  refine WL.pv (pv_move rfl) rfl ?_
  refine WL.pv (pv_move rfl) rfl ?_
  refine WL.append (k := 2) (N := 65536) hS slT_22 zlenT_5 (by decide) rfl rfl rfl hRx.rs bs8_one (by rw [bs8_len, bs8_len, shaV_len]; omega) (by omega) (by simp [maxLen]) rfl ?_
  intro v36 w hFr36 hS
  try simp only [List.set] at hS
  rw [← bs8_app] at hS
  refine WL.pv (pv_assign rfl) rfl ?_
  refine WL.nil ?_
  refine QN.thenW ?_
  refine WC.seq ?_
  refine WC.region ?_
  refine WL.pv (pv_move rfl) rfl ?_
  refine WL.pv (pv_assign rfl) rfl ?_
  refine WL.nil ?_
  refine QN.thenW ?_
  refine WC.ret ?_
  refine QN.ret1 rfl rfl ?_
  exact ⟨_, rfl, hS.fr, hS.rw_ (k := 2) rfl, own_of hS (k := 2) rfl⟩

set_option maxRecDepth 100000 in
theorem fits_c (h : Nat) (num : UInt64) (A1 A2 : Option Addr) (m1 c1 m2 c2 : Nat) (s1 s2 : List UInt8) (w0 : World) (h1 : Rs w0 (.slice A1 m1 c1) 1 (bs8 s1)) (h2 : Rs w0 (.slice A2 m2 c2) 1 (bs8 s2)) (hl1 : s1.length ≤ 4000) (hl2 : s2.length ≤ 4000) (hh : h ≤ 100000) : Calls Try.prog 55 #[.int .i64 (h : Int), w64 num, .agg #[.slice A1 m1 c1, .slice A2 m2 c2]] w0 fun e w => e = .returned (.bool (decide ((recB num s1 s2).length ≤ 64 * h))) ∧ Fr No w0 w := by
  have hln1 := h1.len
  have hln2 := h2.len
  rw [bs8_len] at hln1 hln2
  refine calls_of_WC (args := [.int .i64 (h : Int), w64 num, .agg #[.slice A1 m1 c1, .slice A2 m2 c2]]) Try.func55 rfl Try.ntmps55 rfl ?_
  show WC _ _ _ _ [(0, .int .i64 (h : Int)), (1, w64 num), (2, .agg #[.slice A1 m1 c1, .slice A2 m2 c2])] _
  have hS := ST.start w0 No
  refine WC.seq ?_
  refine WC.region ?_
  refine WL.box (vs := [.slice A1 m1 c1, .slice A2 m2 c2]) hS rfl rfl rfl ?_
  intro b5 w hb5 hS
  refine WL.pv (pv_assign rfl) rfl ?_
  refine WL.nil ?_
  refine QN.thenW ?_
  refine WC.seq ?_
  refine WC.region ?_
  refine WL.pv (pv_fieldAddrZ fldT_78_0 rfl) rfl ?_
  refine WL.rv (rv_load_blk (k := 0) hS oneT_22 rfl rfl rfl) rfl ?_
  refine WL.pv (pv_len slS_22 rfl) rfl ?_
  refine WL.pv (pv_leq rfl rfl) rfl ?_
  refine WL.pv (pv_move rfl) rfl ?_
  refine WL.guardT rfl rfl rfl (lkT rfl (by omega)) ?_
  refine WL.pv (pv_fieldAddrZ fldT_78_1 rfl) rfl ?_
  refine WL.guardT rfl rfl rfl (lkT rfl (by omega)) ?_
  refine WL.rv (rv_load_blk (k := 0) hS oneT_22 rfl rfl rfl) rfl ?_
  refine WL.guardT rfl rfl rfl (lkT rfl (by omega)) ?_
  refine WL.pv (pv_len slS_22 rfl) rfl ?_
  refine WL.guardT rfl rfl rfl (lkT rfl (by omega)) ?_
  refine WL.pv (pv_leq rfl rfl) rfl ?_
  refine WL.pv (pv_pick1 (lkT rfl (by omega)) rfl) rfl ?_
  refine WL.pv (pv_move rfl) rfl ?_
  refine WL.guardT rfl rfl rfl (lkT rfl (by omega)) ?_
  refine WL.pv (pv_move rfl) rfl ?_
  refine WL.guardT rfl rfl rfl (lkT rfl (by omega)) ?_
  refine WL.rv (rv_load_all (k := 0) hS rfl rfl (by rw [aggT_78]; simp)) rfl ?_
  refine WL.guardT rfl rfl rfl (lkT rfl (by omega)) ?_
  refine WL.call (args := [.tmp 18, .tmp 19]) cf_78 rfl rfl (record_c num _ _ _ _ _ _ s1 s2 _ (h1.no hS.fr) (h2.no hS.fr) hl1 hl2) ?_
  rintro _ w ⟨v20, rfl, hF, hRb, hfb⟩
  refine ⟨_, rfl, ?_⟩
  replace hS := hS.no hF
  obtain ⟨A20, m20, c20, rfl, hm20, _, _⟩ := hRb.anyForm
  rw [bs8_len] at hm20
  refine WL.guardT rfl rfl rfl (lkT rfl (by omega)) ?_
  refine WL.pv (pv_len slS_22 rfl) rfl ?_
  refine WL.guardT rfl rfl rfl (lkT rfl (by omega)) ?_
  refine WL.pv (pv_move rfl) rfl ?_
  refine WL.guardT rfl rfl rfl (lkT rfl (by omega)) ?_
  refine WL.pv (pv_mul rfl rfl (by omega)) rfl ?_
  refine WL.guardT rfl rfl rfl (lkT rfl (by omega)) ?_
  refine WL.pv (pv_leq rfl rfl) rfl ?_
  refine WL.pv (pv_pick1 (lkT rfl (by omega)) rfl) rfl ?_
  refine WL.pv (pv_assign rfl) rfl ?_
  refine WL.nil ?_
  refine QN.thenW ?_
  refine WC.ret ?_
  refine QN.ret1 rfl rfl ?_
  exact ⟨by congr 2; exact decide_eq_decide.2 (by omega), hS.fr⟩

set_option maxRecDepth 100000 in
theorem sameSt_c (A1 A2 A3 A4 : Option Addr) (m1 c1 m2 c2 m3 c3 m4 c4 : Nat) (s1 s2 s3 s4 : List UInt8) (w0 : World) (h1 : Rs w0 (.slice A1 m1 c1) 1 (bs8 s1)) (h2 : Rs w0 (.slice A2 m2 c2) 1 (bs8 s2)) (h3 : Rs w0 (.slice A3 m3 c3) 1 (bs8 s3)) (h4 : Rs w0 (.slice A4 m4 c4) 1 (bs8 s4)) : Calls Try.prog 53 #[.agg #[.slice A1 m1 c1, .slice A2 m2 c2], .agg #[.slice A3 m3 c3, .slice A4 m4 c4]] w0 fun e w => e = .returned (.bool (decide (s1 = s3 ∧ s2 = s4))) ∧ Fr No w0 w := by
  refine calls_of_WC (args := [.agg #[.slice A1 m1 c1, .slice A2 m2 c2], .agg #[.slice A3 m3 c3, .slice A4 m4 c4]]) Try.func53 rfl Try.ntmps53 rfl ?_
  show WC _ _ _ _ [(0, .agg #[.slice A1 m1 c1, .slice A2 m2 c2]), (1, .agg #[.slice A3 m3 c3, .slice A4 m4 c4])] _
  have hS := ST.start w0 No
  refine WC.seq ?_
  refine WC.region ?_
  refine WL.box (vs := [.slice A1 m1 c1, .slice A2 m2 c2]) hS rfl rfl rfl ?_
  intro b2 w hb2 hS
  refine WL.box (vs := [.slice A3 m3 c3, .slice A4 m4 c4]) hS rfl rfl rfl ?_
  intro b3 w hb3 hS
  refine WL.pv (pv_assign rfl) rfl ?_
  refine WL.nil ?_
  refine QN.thenW ?_
  refine WC.seq ?_
  by_cases hs : s1 = s3
  · skip
    refine WC.region ?_
    refine WL.pv (pv_fieldAddrZ fldT_78_0 rfl) rfl ?_
    refine WL.rv (rv_load_blk (k := 1) hS oneT_22 rfl rfl rfl) rfl ?_
    refine WL.pv (pv_fieldAddrZ fldT_78_0 rfl) rfl ?_
    refine WL.rv (rv_load_blk (k := 0) hS oneT_22 rfl rfl rfl) rfl ?_
    refine WL.call (args := [.tmp 6, .tmp 8]) cf_22 rfl rfl (same_c _ _ _ _ _ _ s1 s3 _ (h1.no hS.fr) (h3.no hS.fr)) ?_
    rintro _ w ⟨rfl, hF⟩
    refine ⟨_, rfl, ?_⟩
    replace hS := hS.no hF
    refine WL.pv (pv_move rfl) rfl ?_
    refine WL.guardT rfl rfl rfl (lkT rfl hs) ?_
    refine WL.pv (pv_fieldAddrZ fldT_78_1 rfl) rfl ?_
    refine WL.guardT rfl rfl rfl (lkT rfl hs) ?_
    refine WL.rv (rv_load_blk (k := 1) hS oneT_22 rfl rfl rfl) rfl ?_
    refine WL.guardT rfl rfl rfl (lkT rfl hs) ?_
    refine WL.pv (pv_fieldAddrZ fldT_78_1 rfl) rfl ?_
    refine WL.guardT rfl rfl rfl (lkT rfl hs) ?_
    refine WL.rv (rv_load_blk (k := 0) hS oneT_22 rfl rfl rfl) rfl ?_
    refine WL.guardT rfl rfl rfl (lkT rfl hs) ?_
    refine WL.call (args := [.tmp 12, .tmp 14]) cf_22 rfl rfl (same_c _ _ _ _ _ _ s2 s4 _ (h2.no hS.fr) (h4.no hS.fr)) ?_
    rintro _ w ⟨rfl, hF⟩
    refine ⟨_, rfl, ?_⟩
    replace hS := hS.no hF
    refine WL.pv (pv_pick1 (lkT rfl hs) rfl) rfl ?_
    refine WL.pv (pv_assign rfl) rfl ?_
    refine WL.nil ?_
    refine QN.thenW ?_
    refine WC.ret ?_
    refine QN.ret1 rfl rfl ?_
    exact ⟨by congr 2; exact decide_eq_decide.2 ⟨fun h => ⟨hs, h⟩, fun h => h.2⟩, hS.fr⟩
  · skip
    refine WC.region ?_
    refine WL.pv (pv_fieldAddrZ fldT_78_0 rfl) rfl ?_
    refine WL.rv (rv_load_blk (k := 1) hS oneT_22 rfl rfl rfl) rfl ?_
    refine WL.pv (pv_fieldAddrZ fldT_78_0 rfl) rfl ?_
    refine WL.rv (rv_load_blk (k := 0) hS oneT_22 rfl rfl rfl) rfl ?_
    refine WL.call (args := [.tmp 6, .tmp 8]) cf_22 rfl rfl (same_c _ _ _ _ _ _ s1 s3 _ (h1.no hS.fr) (h3.no hS.fr)) ?_
    rintro _ w ⟨rfl, hF⟩
    refine ⟨_, rfl, ?_⟩
    replace hS := hS.no hF
    refine WL.pv (pv_move rfl) rfl ?_
    refine WL.guardF rfl rfl rfl (lkF rfl hs) rfl rfl ?_
    refine WL.guardF rfl rfl rfl (lkF rfl hs) rfl rfl ?_
    refine WL.guardF rfl rfl rfl (lkF rfl hs) rfl rfl ?_
    refine WL.guardF rfl rfl rfl (lkF rfl hs) rfl rfl ?_
    refine WL.guardF rfl rfl rfl (lkF rfl hs) rfl rfl ?_
    refine WL.pv (pv_pick0 (lkF rfl hs) rfl) rfl ?_
    refine WL.pv (pv_assign rfl) rfl ?_
    refine WL.nil ?_
    refine QN.thenW ?_
    refine WC.ret ?_
    refine QN.ret1 rfl rfl ?_
    exact ⟨by rw [decide_eq_false (fun h => hs h.1)], hS.fr⟩

end Go.Proofs.Ytjcebkhhgdgohaa
namespace Go.Proofs.Ytjcebkhhgdgohaa
open Go Go.RowKit Go.Eng
theorem cf_108 : callable Try.prog 108 = true := by kernel_rfl
theorem cf_109 : callable Try.prog 109 = true := by kernel_rfl
theorem cf_110 : callable Try.prog 110 = true := by kernel_rfl
theorem cf_116 : callable Try.prog 116 = true := by kernel_rfl
theorem fldT_166_0 : fldT Try.prog 166 0 = some 0 := by kernel_rfl
theorem fldT_166_1 : fldT Try.prog 166 1 = some 1 := by kernel_rfl
theorem layT_166 : layOf Try.prog 166 = some [(0, 1), (1, 1)] := by kernel_rfl
theorem zeroT_166 : zeroT Try.prog 166 = some ([.slice none 0 0, .int .i64 0]) := by kernel_rfl

theorem or_shl (y : UInt64) (c : UInt8) : shl64 y 8 ||| c.toUInt64 = 256 * y + c.toUInt64 := by
  apply UInt64.toNat_inj.1
  have hc := c.toNat_lt
  have hy := y.toNat_lt
  rw [UInt64.toNat_or, shl64, if_pos (by omega), UInt64.toNat_shiftLeft, UInt8.toNat_toUInt64, UInt64.toNat_add, UInt64.toNat_mul, UInt8.toNat_toUInt64, show (UInt64.ofNat 8).toNat % 64 = 8 from by decide, show (256 : UInt64).toNat = 256 from rfl]
  rw [show y.toNat <<< 8 % 2 ^ 64 = (y.toNat % 2 ^ 56) <<< 8 from by rw [Nat.shiftLeft_eq, Nat.shiftLeft_eq]; omega, ← Nat.shiftLeft_add_eq_or_of_lt (by simpa using hc), Nat.shiftLeft_eq]
  omega
theorem divs_div (x : UInt64) (k : Nat) : divs (x / 256) k = divs x (k + 1) := by
  apply UInt64.toNat_inj.1
  rw [divs_nat, divs_nat, UInt64.toNat_div, show (256 : UInt64).toNat = 256 from rfl, Nat.div_div_eq_div_mul, Nat.pow_succ, Nat.mul_comm]
theorem beB_succ (x : UInt64) (n : Nat) : beB x (n + 1) = beB (x / 256) n ++ [(x % 256).toUInt8] := by
  unfold beB
  rw [List.range_succ, List.map_append]
  congr 1
  · refine List.map_congr_left fun j hj => ?_
    have hj := List.mem_range.1 hj
    rw [divs_div, show n - 1 - j + 1 = n + 1 - 1 - j from by omega]
  · simp [divs]
theorem numBE_beB : ∀ (n : Nat) (x : UInt64), x.toNat < 256 ^ n → numBE (beB x n) = x
  | 0, x, h => by
    apply UInt64.toNat_inj.1
    simp at h
    rw [h]; rfl
  | n + 1, x, h => by
    rw [beB_succ, numBE_snoc, numBE_beB n (x / 256) (by rw [UInt64.toNat_div, show (256 : UInt64).toNat = 256 from rfl]; rw [Nat.pow_succ] at h; omega)]
    apply UInt64.toNat_inj.1
    have := x.toNat_lt
    rw [UInt64.toNat_add, UInt64.toNat_mul, UInt64.toNat_div, UInt8.toNat_toUInt64, UInt64.toNat_toUInt8, UInt64.toNat_mod, show (256 : UInt64).toNat = 256 from rfl]
    omega
theorem lt_wid0 : ∀ (n x : Nat), x ≤ n → x < 256 ^ wid0 x
  | n, x, h => by
    by_cases h0 : x = 0
    · subst h0; exact Nat.pow_pos (by omega)
    · match n with
      | 0 => omega
      | n + 1 =>
        rw [wid0_pos (by omega), Nat.pow_succ]
        have := lt_wid0 n (x / 256) (by omega)
        omega
theorem lt_widN (x : Nat) : x < 256 ^ widN x := by
  have := lt_wid0 _ (x / 256) (Nat.le_refl _)
  rw [widN, Nat.add_comm, Nat.pow_succ]; omega
theorem num_wid (x : UInt64) : numBE (beB x (widN x.toNat)) = x := numBE_beB _ _ (lt_widN _)
theorem num_8 (x : UInt64) : numBE (beB x 8) = x := numBE_beB _ _ (by have := x.toNat_lt; simpa using this)
theorem num_one (c : UInt8) : numBE [c] = c.toUInt64 := by simp [numBE]
theorem small_one {x : UInt64} (h : x.toNat < 251) : x.toUInt8.toUInt64 = x := by
  apply UInt64.toNat_inj.1
  rw [UInt8.toNat_toUInt64, UInt64.toNat_toUInt8]; omega
theorem small_two {n : Nat} (h : n < 256) : (UInt8.ofNat n).toUInt64 = UInt64.ofNat n := by
  apply UInt64.toNat_inj.1
  rw [UInt8.toNat_toUInt64, UInt8.toNat_ofNat', ofNat_toNat (by omega)]; omega
theorem smallB_pos (x : UInt64) : 1 ≤ (smallB x).length := by unfold smallB; split <;> simp
theorem wid_small {x : UInt64} (h : x.toNat < 4294967296) : widN x.toNat ≤ 4 := widN_le (by omega) (by omega)
/-- A reader, behind a read. -/
def RdPost (br : Nat) (v : Value) (a : Nat) (r : Value) (w0 : World) (e : Ending) (w : World) : Prop :=
  e = .returned r ∧ Fr (fun b => b = br) w0 w ∧ Bk w br 166 [v, .int .i64 (a : Int)]

set_option maxRecDepth 100000 in
theorem rdLeft_c (br : Nat) (A : Option Addr) (m c : Nat) (all : List UInt8) (a : Nat) (w0 : World) (hb : Bk w0 br 166 [.slice A m c, .int .i64 (a : Int)]) (hr : Rs w0 (.slice A m c) 1 (bs8 all)) (ha : a ≤ all.length) : Calls Try.prog 108 #[.pointer (some ⟨br, 0, none⟩)] w0 fun e w => e = .returned (.int .i64 ((all.length : Int) - (a : Int))) ∧ Fr No w0 w := by
  have hml := hr.len
  rw [bs8_len] at hml
  have hmx := hml.2.2
  simp only [maxLen] at hmx
  refine calls_of_WC (args := [.pointer (some ⟨br, 0, none⟩)]) Try.func108 rfl Try.ntmps108 rfl ?_
  show WC _ _ _ _ [(0, .pointer (some ⟨br, 0, none⟩))] _
  have hS : ST w0 (fun b => b = br) w0 [.blk br 166 [.slice A m c, .int .i64 (a : Int)]] := ST.one hb rfl
  refine WC.seq ?_
  refine WC.region ?_
  refine WL.pv (pv_assign rfl) rfl ?_
  refine WL.nil ?_
  refine QN.thenW ?_
  refine WC.seq ?_
  refine WC.still mixedO (by kernel_rfl) ?_
  have hS := hS.no (Fr.drew _)
  have hF0 : Fr No w0 w0.drew := Fr.drew _
  refine WS.pv (pv_move rfl) rfl ?_
  refine WS.pv (pv_nil rfl) rfl ?_
  refine WS.pv (pv_fieldAddrZ fldT_166_0 rfl) rfl ?_
  refine WS.rv (rv_load_blk (k := 0) hS oneT_22 rfl rfl rfl) rfl ?_
  refine WS.pv (pv_len slS_22 rfl) rfl ?_
  refine WS.pv (pv_move rfl) rfl ?_
  refine WS.pv (pv_nil rfl) rfl ?_
  refine WS.pv (pv_fieldAddrZ fldT_166_1 rfl) rfl ?_
  refine WS.rv (rv_load_blk (k := 0) hS oneT_3 rfl rfl rfl) rfl ?_
  refine WS.pv (pv_sub rfl rfl (by omega)) rfl ?_
  refine WS.pv (pv_assign rfl) rfl ?_
  refine WS.done ?_
  refine QN.thenW ?_
  refine WC.ret ?_
  refine QN.ret1 rfl rfl ?_
  exact ⟨by rw [show (all.length : Int) = (m : Int) from by omega], by assumption⟩

set_option maxRecDepth 100000 in
theorem rdTake_c (br : Nat) (A : Option Addr) (m c : Nat) (all : List UInt8) (a : Nat) (w0 : World) (hb : Bk w0 br 166 [.slice A m c, .int .i64 (a : Int)]) (hr : Rs w0 (.slice A m c) 1 (bs8 all)) (hN : 0 < (bs8 all).length → ∀ b, (Value.slice A m c).ownBlock = some b → ¬ b = br) (n : Nat) (hn : 1 ≤ n) (hn8 : n ≤ 8) (ha : a + n ≤ all.length) : Calls Try.prog 109 #[.pointer (some ⟨br, 0, none⟩), .int .i64 (n : Int)] w0 (RdPost br (.slice A m c) (a + n) (w64 (numBE ((all.drop a).take n))) w0) := by
  have hml := hr.len
  rw [bs8_len] at hml
  have hmx := hml.2.2
  simp only [maxLen] at hmx
  obtain ⟨bb, oo, rfl, _, _, _, hcb⟩ := hr.at_ (by rw [bs8_len]; omega)
  have hne : ¬ bb = br := hN (by rw [bs8_len]; omega) bb rfl
  refine calls_of_WC (args := [.pointer (some ⟨br, 0, none⟩), .int .i64 (n : Int)]) Try.func109 rfl Try.ntmps109 rfl ?_
  show WC _ _ _ _ [(0, .pointer (some ⟨br, 0, none⟩)), (1, .int .i64 (n : Int))] _
  have hS : ST w0 (fun b => b = br) w0 [.blk br 166 [.slice (some ⟨bb, oo, none⟩) m c, .int .i64 (a : Int)]] := ST.one hb rfl
  refine WC.seq ?_
  refine WC.region ?_
  refine WL.pv (pv_assign rfl) rfl ?_
  refine WL.nil ?_
  refine QN.thenW ?_
  refine WC.seq ?_
  refine WC.region ?_
  refine WL.pv (pv_assign rfl) rfl ?_
  refine WL.nil ?_
  refine QN.thenW ?_
  refine WC.seq ?_
  refine WC.seq ?_
  refine WC.region ?_
  refine WL.pv (pv_move rfl) rfl ?_
  refine WL.pv (pv_move rfl) rfl ?_
  refine WL.nil ?_
  refine QN.thenW ?_
  refine WC.block ?_
  refine WC.loop (α := Nat) (fun k => [(0, .pointer (some ⟨br, 0, none⟩)), (5, w64 (numBE ((all.drop a).take k))), (6, .int .i64 (n : Int)), (7, .int .i64 (k : Int))]) (fun k w => k ≤ n ∧ ST w0 (fun b => b = br) w [.blk br 166 [.slice (some ⟨bb, oo, none⟩) m c, .int .i64 ((a + k : Nat) : Int)]]) (fun k => n - k) (0) (Sub.cons rfl (Sub.cons rfl (Sub.cons rfl (Sub.cons rfl Sub.nil)))) ⟨by omega, hS⟩ ?_
  rintro k w N hN hR
  obtain ⟨hk, hS⟩ := hR
  refine WC.seq ?_
  refine WC.region ?_
  refine WL.pv (pv_lss rfl rfl) rfl ?_
  refine WL.nil ?_
  refine QN.thenW ?_
  refine WC.seq ?_
  refine WC.condD rfl (fun hc8 => ?_) (fun hc8 => ?_)
  · skip
    have hkn : k < n := by omega
    refine WC.skip ?_
    refine QN.thenW ?_
    refine WC.seq ?_
    refine WC.block ?_
    refine WC.seq ?_
    refine WC.still mixedO (by kernel_rfl) ?_
    have hS := hS.no (Fr.drew _)
    refine WS.pv (pv_move rfl) rfl ?_
    refine WS.pv (pv_shl64 (c := 8) rfl rfl (by omega)) rfl ?_
    refine WS.pv (pv_move rfl) rfl ?_
    refine WS.pv (pv_nil rfl) rfl ?_
    refine WS.pv (pv_fieldAddrZ fldT_166_0 rfl) rfl ?_
    refine WS.rv (rv_load_blk (k := 0) hS oneT_22 rfl rfl rfl) rfl ?_
    refine WS.pv (pv_move rfl) rfl ?_
    refine WS.pv (pv_nil rfl) rfl ?_
    refine WS.pv (pv_fieldAddrZ fldT_166_1 rfl) rfl ?_
    refine WS.rv (rv_load_blk (k := 0) hS oneT_3 rfl rfl rfl) rfl ?_
    refine WS.pv (pv_indexAddrS1 (j := a + k) slT_22 rfl rfl (by omega) (by omega)) rfl ?_
    refine WS.rv (rv_load oneT_5 rfl (hS.fr.cellS (hcb (a + k) _ (bs8_at (by omega))) hne)) rfl ?_
    refine WS.pv (pv_conv someT_5 Try.underlying86 rfl (cv_8_64 _)) rfl ?_
    refine WS.pv (pv_or64 rfl rfl) rfl ?_
    refine WS.pv (pv_assign rfl) rfl ?_
    refine WS.done ?_
    refine QN.thenW ?_
    refine WC.region ?_
    refine WL.pv (pv_move rfl) rfl ?_
    refine WL.pv (pv_nil rfl) rfl ?_
    refine WL.pv (pv_fieldAddrZ fldT_166_1 rfl) rfl ?_
    refine WL.rv (rv_load_blk (k := 0) hS oneT_3 rfl rfl rfl) rfl ?_
    refine WL.pv (pv_add rfl rfl (by omega)) rfl ?_
    refine WL.pv (pv_nil rfl) rfl ?_
    refine WL.pv (pv_fieldAddrZ fldT_166_1 rfl) rfl ?_
    refine WL.store (k := 0) hS sizeT_3 rfl rfl rfl rfl (by simp) ?_
    intro w hS
    try simp only [List.set] at hS
    rw [show (((a + k : Nat) : Int) + 1) = ((a + (k + 1) : Nat) : Int) from by omega] at hS
    refine WL.nil ?_
    refine QN.blockN ?_
    refine QN.thenW ?_
    refine WC.region ?_
    refine WL.pv (pv_add rfl rfl (by omega)) rfl ?_
    refine WL.pv (pv_move rfl) rfl ?_
    refine WL.nil ?_
    have hsub : ∀ {v : Value}, v = w64 (shl64 (numBE ((all.drop a).take k)) 8 ||| (all[a + k]'(by omega)).toUInt64) → some v = some (w64 (numBE ((all.drop a).take (k + 1)))) := fun h => by rw [h, or_shl, take_succ_drop (by omega), numBE_snoc]
    replace hsub := hsub rfl
    refine QN.roundE ?_
    refine ⟨(k + 1), (Sub.cons rfl (Sub.cons hsub (Sub.cons rfl (Sub.cons rfl Sub.nil)))), ⟨by omega, hS⟩, ?_⟩
    first | omega | (dsimp only; omega)
  · skip
    obtain rfl : k = n := by omega
    refine WC.exit ?_
    refine QN.thenX ?_
    refine QN.thenX ?_
    refine QN.blockX ?_
    refine QN.thenW ?_
    refine WC.seq ?_
    refine WC.region ?_
    refine WL.pv (pv_move rfl) rfl ?_
    refine WL.pv (pv_assign rfl) rfl ?_
    refine WL.nil ?_
    refine QN.thenW ?_
    refine WC.ret ?_
    refine QN.ret1 rfl rfl ?_
    exact ⟨rfl, hS.fr, hS.bk (k := 0) rfl⟩

set_option maxRecDepth 100000 in
theorem rdNum_c (br : Nat) (A : Option Addr) (m c : Nat) (all : List UInt8) (a : Nat) (w0 : World) (hb : Bk w0 br 166 [.slice A m c, .int .i64 (a : Int)]) (hr : Rs w0 (.slice A m c) 1 (bs8 all)) (hN : 0 < (bs8 all).length → ∀ b, (Value.slice A m c).ownBlock = some b → ¬ b = br) (n : Nat) (hn : 1 ≤ n) (hn8 : n ≤ 8) (ha : a + n ≤ all.length) : Calls Try.prog 92 #[.pointer (some ⟨br, 0, none⟩), .int .i64 (n : Int)] w0 (RdPost br (.slice A m c) (a + n) (.tuple #[w64 (numBE ((all.drop a).take n)), .int .i64 0]) w0) := by
  have hml := hr.len
  rw [bs8_len] at hml
  have hmx := hml.2.2
  simp only [maxLen] at hmx
  refine calls_of_WC (args := [.pointer (some ⟨br, 0, none⟩), .int .i64 (n : Int)]) Try.func92 rfl Try.ntmps92 rfl ?_
  show WC _ _ _ _ [(0, .pointer (some ⟨br, 0, none⟩)), (1, .int .i64 (n : Int))] _
  have hS : ST w0 (fun b => b = br) w0 [.blk br 166 [.slice A m c, .int .i64 (a : Int)]] := ST.one hb rfl
  refine WC.seq ?_
  refine WC.region ?_
  refine WL.pv (pv_assign rfl) rfl ?_
  refine WL.pv (pv_assign rfl) rfl ?_
  refine WL.nil ?_
  refine QN.thenW ?_
  refine WC.seq ?_
  refine WC.block ?_
  refine WC.seq ?_
  refine WC.region ?_
  refine WL.pv (pv_move rfl) rfl ?_
  refine WL.pv (pv_eqlP Try.underlying146 rfl rfl (by simp)) rfl ?_
  refine WL.pv (pv_assign rfl) rfl ?_
  refine WL.nil ?_
  refine QN.thenW ?_
  refine WC.condF rfl rfl ?_
  refine WC.seq ?_
  refine WC.region ?_
  refine WL.pv (pv_move rfl) rfl ?_
  refine WL.pv (pv_lss rfl rfl) rfl ?_
  refine WL.pv (pv_move rfl) rfl ?_
  refine WL.guardT rfl rfl rfl (lkF rfl (by omega)) ?_
  refine WL.pv (pv_move rfl) rfl ?_
  refine WL.guardT rfl rfl rfl (lkF rfl (by omega)) ?_
  refine WL.pv (pv_gtr rfl rfl) rfl ?_
  refine WL.pv (pv_pick0 (lkF rfl (by omega)) rfl) rfl ?_
  refine WL.pv (pv_assign rfl) rfl ?_
  refine WL.nil ?_
  refine QN.thenW ?_
  refine WC.condDF rfl (by omega) ?_
  refine WC.seq ?_
  refine WC.region ?_
  refine WL.pv (pv_move rfl) rfl ?_
  refine WL.call (args := [.tmp 17]) cf_108 rfl rfl (rdLeft_c br A m c all _ _ (hS.bk (k := 0) rfl) (hr.frN hS.fr hN) (by omega)) ?_
  rintro _ w ⟨rfl, hF⟩
  refine ⟨_, rfl, ?_⟩
  replace hS := hS.no hF
  refine WL.pv (pv_move rfl) rfl ?_
  refine WL.pv (pv_lss rfl rfl) rfl ?_
  refine WL.pv (pv_assign rfl) rfl ?_
  refine WL.nil ?_
  refine QN.thenW ?_
  refine WC.condDF rfl (by omega) ?_
  refine WC.skip ?_
  refine QN.blockN ?_
  refine QN.thenW ?_
  refine WC.seq ?_
  refine WC.region ?_
  refine WL.pv (pv_move rfl) rfl ?_
  refine WL.pv (pv_move rfl) rfl ?_
  refine WL.call (args := [.tmp 21, .tmp 22]) cf_109 rfl rfl (rdTake_c br A m c all _ _ (hS.bk (k := 0) rfl) (hr.frN hS.fr hN) hN n (by omega) (by omega) (by omega)) ?_
  rintro _ w ⟨rfl, hF, hB⟩
  refine ⟨_, rfl, ?_⟩
  replace hS := hS.updB (k := 0) rfl hF hB
  simp only [List.set] at hS
  refine WL.pv (pv_assign rfl) rfl ?_
  refine WL.pv (pv_assign rfl) rfl ?_
  refine WL.nil ?_
  refine QN.thenW ?_
  refine WC.ret ?_
  refine QN.ret2 rfl rfl rfl ?_
  exact ⟨rfl, hS.fr, hS.bk (k := 0) rfl⟩

set_option maxRecDepth 100000 in
theorem rdsmall_c (br : Nat) (A : Option Addr) (m c : Nat) (all : List UInt8) (a : Nat) (w0 : World) (hb : Bk w0 br 166 [.slice A m c, .int .i64 (a : Int)]) (hr : Rs w0 (.slice A m c) 1 (bs8 all)) (hN : 0 < (bs8 all).length → ∀ b, (Value.slice A m c).ownBlock = some b → ¬ b = br) (x : UInt64) (rest : List UInt8) (hx : x.toNat < 4294967296) (hd : all.drop a = smallB x ++ rest) : Calls Try.prog 116 #[.pointer (some ⟨br, 0, none⟩)] w0 (RdPost br (.slice A m c) (a + (smallB x).length) (.tuple #[w64 x, .int .i64 0]) w0) := by
  have hml := hr.len
  rw [bs8_len] at hml
  have hmx := hml.2.2
  simp only [maxLen] at hmx
  refine calls_of_WC (args := [.pointer (some ⟨br, 0, none⟩)]) Try.func116 rfl Try.ntmps116 rfl ?_
  show WC _ _ _ _ [(0, .pointer (some ⟨br, 0, none⟩))] _
  have hS : ST w0 (fun b => b = br) w0 [.blk br 166 [.slice A m c, .int .i64 (a : Int)]] := ST.one hb rfl
  refine WC.seq ?_
  refine WC.region ?_
  refine WL.pv (pv_assign rfl) rfl ?_
  refine WL.pv (pv_assign rfl) rfl ?_
  refine WL.nil ?_
  refine QN.thenW ?_
  refine WC.seq ?_
  refine WC.seq ?_
  by_cases hx1 : x.toNat < 251
  · skip
    have hsm : smallB x = [x.toUInt8] := by rw [smallB, if_pos hx1]
    rw [hsm] at hd ⊢
    have hal := congrArg List.length hd
    simp only [List.length_append, List.length_drop, List.length_cons, List.length_nil] at hal
    have hd1 : (all.drop a).take 1 = [x.toUInt8] := by rw [hd]; rfl
    refine WC.region ?_
    refine WL.pv (pv_move rfl) rfl ?_
    refine WL.call (args := [.tmp 7]) cf_108 rfl rfl (rdLeft_c br A m c all _ _ (hS.bk (k := 0) rfl) (hr.frN hS.fr hN) (by omega)) ?_
    rintro _ w ⟨rfl, hF⟩
    refine ⟨_, rfl, ?_⟩
    replace hS := hS.no hF
    refine WL.pv (pv_lss rfl rfl) rfl ?_
    refine WL.nil ?_
    refine QN.thenW ?_
    refine WC.condDF rfl (by omega) ?_
    refine WC.skip ?_
    refine QN.thenW ?_
    refine WC.seq ?_
    refine WC.region ?_
    refine WL.pv (pv_move rfl) rfl ?_
    refine WL.call (args := [.tmp 10, .const (.int .i64 1)]) cf_109 rfl rfl (rdTake_c br A m c all _ _ (hS.bk (k := 0) rfl) (hr.frN hS.fr hN) hN 1 (by omega) (by omega) (by omega)) ?_
    rintro _ w ⟨rfl, hF, hB⟩
    refine ⟨_, rfl, ?_⟩
    replace hS := hS.updB (k := 0) rfl hF hB
    simp only [List.set] at hS
    rw [hd1, num_one, small_one hx1]
    refine WL.pv (pv_assign rfl) rfl ?_
    refine WL.nil ?_
    refine QN.thenW ?_
    refine WC.seq ?_
    refine WC.seq ?_
    refine WC.region ?_
    refine WL.pv (pv_move rfl) rfl ?_
    refine WL.pv (pv_lss rfl rfl) rfl ?_
    refine WL.nil ?_
    refine QN.thenW ?_
    refine WC.condDT rfl (by omega) ?_
    refine WC.seq ?_
    refine WC.region ?_
    refine WL.pv (pv_move rfl) rfl ?_
    refine WL.pv (pv_assign rfl) rfl ?_
    refine WL.pv (pv_assign rfl) rfl ?_
    refine WL.nil ?_
    refine QN.thenW ?_
    refine WC.ret ?_
    refine QN.thenR ?_
    refine QN.ret2 rfl rfl rfl ?_
    exact ⟨rfl, hS.fr, hS.bk (k := 0) rfl⟩
  · skip
    have hsm : smallB x = UInt8.ofNat (250 + widN x.toNat) :: beB x (widN x.toNat) := by rw [smallB, if_neg hx1]
    have hw4 := wid_small hx
    have hw1 : 1 ≤ widN x.toNat := by unfold widN; omega
    rw [hsm] at hd ⊢
    have hal := congrArg List.length hd
    simp only [List.length_append, List.length_drop, List.length_cons, beB_len] at hal
    have hd1 : (all.drop a).take 1 = [UInt8.ofNat (250 + widN x.toNat)] := by rw [hd]; rfl
    have hd2 : (all.drop (a + 1)).take (widN x.toNat) = beB x (widN x.toNat) := by rw [← List.drop_drop, hd, List.cons_append, List.drop_succ_cons, List.drop_zero, List.take_left' (beB_len _ _)]
    refine WC.region ?_
    refine WL.pv (pv_move rfl) rfl ?_
    refine WL.call (args := [.tmp 7]) cf_108 rfl rfl (rdLeft_c br A m c all _ _ (hS.bk (k := 0) rfl) (hr.frN hS.fr hN) (by omega)) ?_
    rintro _ w ⟨rfl, hF⟩
    refine ⟨_, rfl, ?_⟩
    replace hS := hS.no hF
    refine WL.pv (pv_lss rfl rfl) rfl ?_
    refine WL.nil ?_
    refine QN.thenW ?_
    refine WC.condDF rfl (by omega) ?_
    refine WC.skip ?_
    refine QN.thenW ?_
    refine WC.seq ?_
    refine WC.region ?_
    refine WL.pv (pv_move rfl) rfl ?_
    refine WL.call (args := [.tmp 10, .const (.int .i64 1)]) cf_109 rfl rfl (rdTake_c br A m c all _ _ (hS.bk (k := 0) rfl) (hr.frN hS.fr hN) hN 1 (by omega) (by omega) (by omega)) ?_
    rintro _ w ⟨rfl, hF, hB⟩
    refine ⟨_, rfl, ?_⟩
    replace hS := hS.updB (k := 0) rfl hF hB
    simp only [List.set] at hS
    rw [hd1, num_one, small_two (by omega)]
    have hw : (UInt64.ofNat (250 + widN x.toNat)).toNat = 250 + widN x.toNat := ofNat_toNat (by omega)
    have hn5 : ((UInt64.ofNat (250 + widN x.toNat)).toNat : Int) - 251 + 1 = (widN x.toNat : Int) := by omega
    refine WL.pv (pv_assign rfl) rfl ?_
    refine WL.nil ?_
    refine QN.thenW ?_
    refine WC.seq ?_
    refine WC.seq ?_
    refine WC.region ?_
    refine WL.pv (pv_move rfl) rfl ?_
    refine WL.pv (pv_lss rfl rfl) rfl ?_
    refine WL.nil ?_
    refine QN.thenW ?_
    refine WC.condDF rfl (by omega) ?_
    refine WC.skip ?_
    refine QN.thenW ?_
    refine WC.seq ?_
    refine WC.region ?_
    refine WL.pv (pv_move rfl) rfl ?_
    refine WL.pv (pv_conv someT_86 Try.underlying3 rfl (cv_64_i _ (by omega))) rfl ?_
    refine WL.pv (pv_sub rfl rfl (by omega)) rfl ?_
    refine WL.pv (pv_add rfl rfl (by omega)) rfl ?_
    refine WL.pv (pv_assign rfl) rfl ?_
    refine WL.nil ?_
    refine QN.thenW ?_
    refine WC.seq ?_
    refine WC.block ?_
    refine WC.seq ?_
    refine WC.region ?_
    refine WL.pv (pv_move rfl) rfl ?_
    refine WL.pv (pv_gtr rfl rfl) rfl ?_
    refine WL.pv (pv_assign rfl) rfl ?_
    refine WL.nil ?_
    refine QN.thenW ?_
    refine WC.condDF rfl (by omega) ?_
    refine WC.seq ?_
    refine WC.region ?_
    refine WL.pv (pv_move rfl) rfl ?_
    refine WL.call (args := [.tmp 23]) cf_108 rfl rfl (rdLeft_c br A m c all _ _ (hS.bk (k := 0) rfl) (hr.frN hS.fr hN) (by omega)) ?_
    rintro _ w ⟨rfl, hF⟩
    refine ⟨_, rfl, ?_⟩
    replace hS := hS.no hF
    refine WL.pv (pv_move rfl) rfl ?_
    refine WL.pv (pv_lss rfl rfl) rfl ?_
    refine WL.pv (pv_assign rfl) rfl ?_
    refine WL.nil ?_
    refine QN.thenW ?_
    refine WC.condDF rfl (by omega) ?_
    refine WC.skip ?_
    refine QN.blockN ?_
    refine QN.thenW ?_
    refine WC.seq ?_
    refine WC.region ?_
    refine WL.pv (pv_move rfl) rfl ?_
    refine WL.pv (pv_move rfl) rfl ?_
    refine WL.call (args := [.tmp 27, .tmp 28]) cf_109 rfl rfl (by rw [hn5]; exact rdTake_c br A m c all (a + 1) _ (hS.bk (k := 0) rfl) (hr.frN hS.fr hN) hN (widN x.toNat) (by omega) (by omega) (by omega)) ?_
    rintro _ w ⟨rfl, hF, hB⟩
    refine ⟨_, rfl, ?_⟩
    replace hS := hS.updB (k := 0) rfl hF hB
    simp only [List.set] at hS
    rw [hd2, num_wid]
    refine WL.pv (pv_assign rfl) rfl ?_
    refine WL.nil ?_
    refine QN.thenW ?_
    refine WC.seq ?_
    refine WC.seq ?_
    refine WC.region ?_
    refine WL.pv (pv_move rfl) rfl ?_
    refine WL.pv (pv_lss rfl rfl) rfl ?_
    refine WL.pv (pv_move rfl) rfl ?_
    refine WL.guardT rfl rfl rfl (lkF rfl (by omega)) ?_
    refine WL.pv (pv_move rfl) rfl ?_
    refine WL.guardT rfl rfl rfl (lkF rfl (by omega)) ?_
    refine WL.call (args := [.tmp 33]) cf_85 rfl rfl (width_c x _) ?_
    rintro _ w ⟨rfl, hF⟩
    refine ⟨_, rfl, ?_⟩
    replace hS := hS.no hF
    refine WL.guardT rfl rfl rfl (lkF rfl (by omega)) ?_
    refine WL.pv (pv_move rfl) rfl ?_
    refine WL.guardT rfl rfl rfl (lkF rfl (by omega)) ?_
    refine WL.pv (pv_neq rfl rfl) rfl ?_
    refine WL.pv (pv_pick0 (lkF rfl (by omega)) rfl) rfl ?_
    refine WL.nil ?_
    refine QN.thenW ?_
    refine WC.condDF rfl (by omega) ?_
    refine WC.skip ?_
    refine QN.thenW ?_
    refine WC.seq ?_
    refine WC.region ?_
    refine WL.pv (pv_move rfl) rfl ?_
    refine WL.pv (pv_assign rfl) rfl ?_
    refine WL.pv (pv_assign rfl) rfl ?_
    refine WL.nil ?_
    refine QN.thenW ?_
    refine WC.ret ?_
    refine QN.ret2 rfl rfl rfl ?_
    exact ⟨rfl, hS.fr, by rw [List.length_cons, beB_len, show a + (widN x.toNat + 1) = a + 1 + widN x.toNat from by omega]; exact hS.bk (k := 0) rfl⟩

set_option maxRecDepth 100000 in
theorem rdSmall_c (br : Nat) (A : Option Addr) (m c : Nat) (all : List UInt8) (a : Nat) (w0 : World) (hb : Bk w0 br 166 [.slice A m c, .int .i64 (a : Int)]) (hr : Rs w0 (.slice A m c) 1 (bs8 all)) (hN : 0 < (bs8 all).length → ∀ b, (Value.slice A m c).ownBlock = some b → ¬ b = br) (x mx : UInt64) (rest : List UInt8) (hx : x.toNat < 4294967296) (hmx : x.toNat ≤ mx.toNat) (hd : all.drop a = smallB x ++ rest) : Calls Try.prog 110 #[.pointer (some ⟨br, 0, none⟩), w64 mx] w0 (RdPost br (.slice A m c) (a + (smallB x).length) (.tuple #[w64 x, .int .i64 0]) w0) := by
  refine calls_of_WC (args := [.pointer (some ⟨br, 0, none⟩), w64 mx]) Try.func110 rfl Try.ntmps110 rfl ?_
  show WC _ _ _ _ [(0, .pointer (some ⟨br, 0, none⟩)), (1, w64 mx)] _
  have hS : ST w0 (fun b => b = br) w0 [.blk br 166 [.slice A m c, .int .i64 (a : Int)]] := ST.one hb rfl
  refine WC.seq ?_
  refine WC.region ?_
  refine WL.pv (pv_assign rfl) rfl ?_
  refine WL.pv (pv_assign rfl) rfl ?_
  refine WL.nil ?_
  refine QN.thenW ?_
  refine WC.seq ?_
  refine WC.seq ?_
  refine WC.region ?_
  refine WL.pv (pv_move rfl) rfl ?_
  refine WL.pv (pv_eqlP Try.underlying146 rfl rfl (by simp)) rfl ?_
  refine WL.nil ?_
  refine QN.thenW ?_
  refine WC.condF rfl rfl ?_
  refine WC.skip ?_
  refine QN.thenW ?_
  refine WC.seq ?_
  refine WC.region ?_
  refine WL.pv (pv_move rfl) rfl ?_
  refine WL.pv (pv_nil rfl) rfl ?_
  refine WL.pv (pv_fieldAddrZ fldT_166_1 rfl) rfl ?_
  refine WL.rv (rv_load_blk (k := 0) hS oneT_3 rfl rfl rfl) rfl ?_
  refine WL.pv (pv_assign rfl) rfl ?_
  refine WL.nil ?_
  refine QN.thenW ?_
  refine WC.seq ?_
  refine WC.region ?_
  refine WL.pv (pv_move rfl) rfl ?_
  refine WL.call (args := [.tmp 16]) cf_116 rfl rfl (rdsmall_c br A m c all a _ (hS.bk (k := 0) rfl) (hr.frN hS.fr hN) hN x rest hx hd) ?_
  rintro _ w ⟨rfl, hF, hB⟩
  refine ⟨_, rfl, ?_⟩
  replace hS := hS.updB (k := 0) rfl hF hB
  simp only [List.set] at hS
  refine WL.pv (pv_move rfl) rfl ?_
  refine WL.pv (pv_extL rfl rfl) rfl ?_
  refine WL.pv (pv_extL rfl rfl) rfl ?_
  refine WL.pv (pv_assign rfl) rfl ?_
  refine WL.pv (pv_assign rfl) rfl ?_
  refine WL.nil ?_
  refine QN.thenW ?_
  refine WC.seq ?_
  refine WC.seq ?_
  refine WC.region ?_
  refine WL.pv (pv_move rfl) rfl ?_
  refine WL.pv (pv_eql rfl rfl) rfl ?_
  refine WL.pv (pv_move rfl) rfl ?_
  refine WL.guardT rfl rfl rfl (lkT rfl rfl) ?_
  refine WL.pv (pv_move rfl) rfl ?_
  refine WL.guardT rfl rfl rfl (lkT rfl rfl) ?_
  refine WL.pv (pv_move rfl) rfl ?_
  refine WL.guardT rfl rfl rfl (lkT rfl rfl) ?_
  refine WL.pv (pv_gtr rfl rfl) rfl ?_
  refine WL.pv (pv_pick1 (lkT rfl rfl) rfl) rfl ?_
  refine WL.nil ?_
  refine QN.thenW ?_
  refine WC.condDF rfl (by omega) ?_
  refine WC.skip ?_
  refine QN.thenW ?_
  refine WC.seq ?_
  refine WC.seq ?_
  refine WC.region ?_
  refine WL.pv (pv_move rfl) rfl ?_
  refine WL.pv (pv_neq rfl rfl) rfl ?_
  refine WL.nil ?_
  refine QN.thenW ?_
  refine WC.condDF rfl (by simp) ?_
  refine WC.skip ?_
  refine QN.thenW ?_
  refine WC.seq ?_
  refine WC.region ?_
  refine WL.pv (pv_move rfl) rfl ?_
  refine WL.pv (pv_move rfl) rfl ?_
  refine WL.pv (pv_assign rfl) rfl ?_
  refine WL.pv (pv_assign rfl) rfl ?_
  refine WL.nil ?_
  refine QN.thenW ?_
  refine WC.ret ?_
  refine QN.ret2 rfl rfl rfl ?_
  exact ⟨rfl, hS.fr, hS.bk (k := 0) rfl⟩

set_option maxRecDepth 100000 in
theorem rdText_c (br : Nat) (A : Option Addr) (m c : Nat) (all : List UInt8) (a : Nat) (w0 : World) (hb : Bk w0 br 166 [.slice A m c, .int .i64 (a : Int)]) (hr : Rs w0 (.slice A m c) 1 (bs8 all)) (hN : 0 < (bs8 all).length → ∀ b, (Value.slice A m c).ownBlock = some b → ¬ b = br) (t rest : List UInt8) (ht : t.length ≤ 65536) (hd : all.drop a = textB t ++ rest) : Calls Try.prog 93 #[.pointer (some ⟨br, 0, none⟩), .int .i64 65536] w0 fun e w => ∃ v, e = .returned (.tuple #[v, .int .i64 0]) ∧ ST w0 (fun b => b = br) w [.row v 5 1 (bs8 t), .blk br 166 [.slice A m c, .int .i64 ((a + (textB t).length : Nat) : Int)]] := by
  have hml := hr.len
  rw [bs8_len] at hml
  have hmx := hml.2.2
  simp only [maxLen] at hmx
  have hlt : (UInt64.ofNat t.length).toNat = t.length := ofNat_toNat (by omega)
  have hal := congrArg List.length hd
  simp only [List.length_append, List.length_drop, textB] at hal
  have hsp := smallB_pos (UInt64.ofNat t.length)
  have htl : (textB t).length = (smallB (UInt64.ofNat t.length)).length + t.length := by rw [textB, List.length_append]
  have hdt : (all.drop (a + (smallB (UInt64.ofNat t.length)).length)).take (a + (textB t).length - (a + (smallB (UInt64.ofNat t.length)).length)) = t := by
    rw [← List.drop_drop, hd, textB, List.append_assoc, List.drop_left, show a + (smallB (UInt64.ofNat t.length) ++ t).length - (a + (smallB (UInt64.ofNat t.length)).length) = t.length from by rw [List.length_append]; omega, List.take_left]
  refine calls_of_WC (args := [.pointer (some ⟨br, 0, none⟩), .int .i64 65536]) Try.func93 rfl Try.ntmps93 rfl ?_
  show WC _ _ _ _ [(0, .pointer (some ⟨br, 0, none⟩)), (1, .int .i64 65536)] _
  have hS : ST w0 (fun b => b = br) w0 [.blk br 166 [.slice A m c, .int .i64 (a : Int)]] := ST.one hb rfl
  refine WC.seq ?_
  refine WC.region ?_
  refine WL.pv (pv_assign rfl) rfl ?_
  refine WL.pv (pv_assign rfl) rfl ?_
  refine WL.nil ?_
  refine QN.thenW ?_
  refine WC.seq ?_
  refine WC.seq ?_
  refine WC.region ?_
  refine WL.pv (pv_move rfl) rfl ?_
  refine WL.pv (pv_eqlP Try.underlying146 rfl rfl (by simp)) rfl ?_
  refine WL.nil ?_
  refine QN.thenW ?_
  refine WC.condF rfl rfl ?_
  refine WC.skip ?_
  refine QN.thenW ?_
  refine WC.seq ?_
  refine WC.region ?_
  refine WL.pv (pv_move rfl) rfl ?_
  refine WL.pv (pv_nil rfl) rfl ?_
  refine WL.pv (pv_fieldAddrZ fldT_166_1 rfl) rfl ?_
  refine WL.rv (rv_load_blk (k := 0) hS oneT_3 rfl rfl rfl) rfl ?_
  refine WL.pv (pv_assign rfl) rfl ?_
  refine WL.nil ?_
  refine QN.thenW ?_
  refine WC.seq ?_
  refine WC.region ?_
  refine WL.pv (pv_move rfl) rfl ?_
  refine WL.pv (pv_move rfl) rfl ?_
  refine WL.pv (pv_maxN (a := 65536) (b := 0) rfl rfl) rfl ?_
  refine WL.pv (pv_conv someT_3 Try.underlying86 rfl (cv_i_64 _)) rfl ?_
  refine WL.call (args := [.tmp 16, .tmp 19]) cf_110 rfl rfl (rdSmall_c br A m c all a _ (hS.bk (k := 0) rfl) (hr.frN hS.fr hN) hN (UInt64.ofNat t.length) (UInt64.ofNat 65536) (t ++ rest) (by rw [hlt]; omega) (by rw [hlt, show (UInt64.ofNat 65536).toNat = 65536 from by decide]; exact ht) (by rw [hd, textB, List.append_assoc])) ?_
  rintro _ w ⟨rfl, hF, hB⟩
  refine ⟨_, rfl, ?_⟩
  replace hS := hS.updB (k := 0) rfl hF hB
  simp only [List.set] at hS
  refine WL.pv (pv_move rfl) rfl ?_
  refine WL.pv (pv_extL rfl rfl) rfl ?_
  refine WL.pv (pv_extL rfl rfl) rfl ?_
  refine WL.pv (pv_assign rfl) rfl ?_
  refine WL.pv (pv_assign rfl) rfl ?_
  refine WL.nil ?_
  refine QN.thenW ?_
  refine WC.seq ?_
  refine WC.seq ?_
  refine WC.region ?_
  refine WL.pv (pv_move rfl) rfl ?_
  refine WL.pv (pv_neq rfl rfl) rfl ?_
  refine WL.nil ?_
  refine QN.thenW ?_
  refine WC.condDF rfl (by simp) ?_
  refine WC.skip ?_
  refine QN.thenW ?_
  refine WC.seq ?_
  refine WC.seq ?_
  refine WC.region ?_
  refine WL.pv (pv_move rfl) rfl ?_
  refine WL.call (args := [.tmp 26]) cf_108 rfl rfl (rdLeft_c br A m c all (a + (smallB (UInt64.ofNat t.length)).length) _ (hS.bk (k := 0) rfl) (hr.frN hS.fr hN) (by omega)) ?_
  rintro _ w ⟨rfl, hF⟩
  refine ⟨_, rfl, ?_⟩
  replace hS := hS.no hF
  refine WL.pv (pv_conv someT_3 Try.underlying86 rfl ((congrArg IntKind.u64.wrap (show (all.length : Int) - ((a + (smallB (UInt64.ofNat t.length)).length : Nat) : Int) = ((all.length - (a + (smallB (UInt64.ofNat t.length)).length) : Nat) : Int) from by omega)).trans (cv_i_64 _))) rfl ?_
  refine WL.pv (pv_move rfl) rfl ?_
  refine WL.pv (pv_lss rfl rfl) rfl ?_
  refine WL.nil ?_
  refine QN.thenW ?_
  refine WC.condDF rfl (by rw [hlt, ofNat_toNat (by omega)]; omega) ?_
  refine WC.skip ?_
  refine QN.thenW ?_
  refine WC.seq ?_
  refine WC.region ?_
  refine WL.pv (pv_move rfl) rfl ?_
  refine WL.pv (pv_nil rfl) rfl ?_
  refine WL.pv (pv_fieldAddrZ fldT_166_1 rfl) rfl ?_
  refine WL.rv (rv_load_blk (k := 0) hS oneT_3 rfl rfl rfl) rfl ?_
  refine WL.pv (pv_move rfl) rfl ?_
  refine WL.pv (pv_conv someT_86 Try.underlying3 rfl (show IntKind.i64.wrap ((UInt64.ofNat t.length).toNat : Int) = ((t.length : Nat) : Int) from by rw [hlt]; exact wrap_i64 (by omega) (by omega))) rfl ?_
  refine WL.pv (pv_add rfl rfl (by omega)) rfl ?_
  refine WL.pv (pv_nil rfl) rfl ?_
  refine WL.pv (pv_fieldAddrZ fldT_166_1 rfl) rfl ?_
  refine WL.store (k := 0) hS sizeT_3 rfl rfl rfl rfl (by simp) ?_
  intro w hS
  try simp only [List.set] at hS
  rw [show ((a + (smallB (UInt64.ofNat t.length)).length : Nat) : Int) + ((t.length : Nat) : Int) = ((a + (textB t).length : Nat) : Int) from by omega] at hS
  refine WL.nil ?_
  refine QN.thenW ?_
  refine WC.seq ?_
  refine WC.stillTail 16 mixedO (by kernel_rfl) ?_
  have hS := hS.no (Fr.drew _)
  refine WS.pv (pv_move rfl) rfl ?_
  refine WS.pv (pv_nil rfl) rfl ?_
  refine WS.pv (pv_fieldAddrZ fldT_166_0 rfl) rfl ?_
  refine WS.rv (rv_load_blk (k := 0) hS oneT_22 rfl rfl rfl) rfl ?_
  refine WS.pv (pv_move rfl) rfl ?_
  refine WS.pv (pv_nil rfl) rfl ?_
  refine WS.pv (pv_fieldAddrZ fldT_166_1 rfl) rfl ?_
  refine WS.rv (rv_load_blk (k := 0) hS oneT_3 rfl rfl rfl) rfl ?_
  refine WS.pv (pv_move rfl) rfl ?_
  refine WS.pv (pv_conv someT_86 Try.underlying3 rfl (show IntKind.i64.wrap ((UInt64.ofNat t.length).toNat : Int) = ((t.length : Nat) : Int) from by rw [hlt]; exact wrap_i64 (by omega) (by omega))) rfl ?_
  refine WS.pv (pv_sub rfl rfl (by omega)) rfl ?_
  refine WS.pv (pv_move rfl) rfl ?_
  refine WS.pv (pv_nil rfl) rfl ?_
  refine WS.pv (pv_fieldAddrZ fldT_166_1 rfl) rfl ?_
  refine WS.rv (rv_load_blk (k := 0) hS oneT_3 rfl rfl rfl) rfl ?_
  refine WS.pv (pv_sliceLH (a := (a + (smallB (UInt64.ofNat t.length)).length)) (b := (a + (textB t).length)) slT_22 rfl rfl rfl (by first | rfl | (simp only [bnd]; congr 1; omega)) (by first | rfl | (simp only [bnd]; congr 1; omega)) (by omega) (by omega)) rfl ?_
  refine WS.tail ?_
  refine WL.call (args := [.tmp 59]) cf_88 rfl rfl (clone_c _ _ _ t _ (by have h9 := Rs.cut8 (a := a + (smallB (UInt64.ofNat t.length)).length) (b := a + (textB t).length) (hr.frN hS.fr hN) (by omega) (by omega); rw [hdt] at h9; exact h9) (by omega)) ?_
  rintro _ w ⟨v60, rfl, hF, hRv, hfv⟩
  refine ⟨_, rfl, ?_⟩
  replace hS := hS.add (e := .row v60 5 1 _) hF hRv hfv
  refine WL.pv (pv_assign rfl) rfl ?_
  refine WL.pv (pv_assign rfl) rfl ?_
  refine WL.nil ?_
  refine QN.thenW ?_
  refine WC.ret ?_
  refine QN.ret2 rfl rfl rfl ?_
  exact ⟨_, rfl, hS⟩

set_option maxRecDepth 100000 in
theorem rdAt_c (br : Nat) (v : Value) (a : Nat) (w0 : World) (hb : Bk w0 br 166 [v, .int .i64 (a : Int)]) : Calls Try.prog 94 #[.pointer (some ⟨br, 0, none⟩)] w0 fun e w => e = .returned (.int .i64 (a : Int)) ∧ Fr No w0 w := by
  refine calls_of_WC (args := [.pointer (some ⟨br, 0, none⟩)]) Try.func94 rfl Try.ntmps94 rfl ?_
  show WC _ _ _ _ [(0, .pointer (some ⟨br, 0, none⟩))] _
  have hS : ST w0 (fun b => b = br) w0 [.blk br 166 [v, .int .i64 (a : Int)]] := ST.one hb rfl
  refine WC.seq ?_
  refine WC.region ?_
  refine WL.pv (pv_assign rfl) rfl ?_
  refine WL.nil ?_
  refine QN.thenW ?_
  refine WC.seq ?_
  refine WC.seq ?_
  refine WC.region ?_
  refine WL.pv (pv_move rfl) rfl ?_
  refine WL.pv (pv_eqlP Try.underlying146 rfl rfl (by simp)) rfl ?_
  refine WL.nil ?_
  refine QN.thenW ?_
  refine WC.condF rfl rfl ?_
  refine WC.skip ?_
  refine QN.thenW ?_
  refine WC.seq ?_
  refine WC.region ?_
  refine WL.pv (pv_move rfl) rfl ?_
  refine WL.pv (pv_nil rfl) rfl ?_
  refine WL.pv (pv_fieldAddrZ fldT_166_1 rfl) rfl ?_
  refine WL.rv (rv_load_blk (k := 0) hS oneT_3 rfl rfl rfl) rfl ?_
  refine WL.pv (pv_assign rfl) rfl ?_
  refine WL.nil ?_
  refine QN.thenW ?_
  refine WC.ret ?_
  refine QN.ret1 rfl rfl ?_
  exact ⟨rfl, Fr.refl _⟩

set_option maxRecDepth 100000 in
theorem rdNew_c (A : Option Addr) (m c : Nat) (all : List UInt8) (w0 : World) (hr : Rs w0 (.slice A m c) 1 (bs8 all)) (hl : all.length ≤ 1048576) : Calls Try.prog 91 #[.slice A m c] w0 fun e w => ∃ br v, e = .returned (.pointer (some ⟨br, 0, none⟩)) ∧ ST w0 No w [.blk br 166 [v, .int .i64 ((0 : Nat) : Int)], .row v 5 1 (bs8 all)] := by
  refine calls_of_WC (args := [.slice A m c]) Try.func91 rfl Try.ntmps91 rfl ?_
  show WC _ _ _ _ [(0, .slice A m c)] _
  have hS := ST.start w0 No
  refine WC.seq ?_
  refine WC.region ?_
  refine WL.pv (pv_assign rfl) rfl ?_
  refine WL.nil ?_
  refine QN.thenW ?_
  refine WC.seq ?_
  refine WC.region ?_
  refine WL.pv (pv_move rfl) rfl ?_
  refine WL.call (args := [.tmp 3]) cf_88 rfl rfl (clone_c _ _ _ all _ (hr.no hS.fr) hl) ?_
  rintro _ w ⟨v4, rfl, hF, hRv, hfv⟩
  refine ⟨_, rfl, ?_⟩
  replace hS := hS.add (e := .row v4 5 1 _) hF hRv hfv
  obtain ⟨A4, m4, c4, rfl, _, _, _⟩ := hRv.anyForm
  refine WL.pv (pv_buildS (parts := [(0, .tmp 4)]) (cells := [.slice A4 m4 c4, .int .i64 ((0 : Nat) : Int)]) layT_166 zeroT_166 rfl rfl) rfl ?_
  refine WL.box (vs := [.slice A4 m4 c4, .int .i64 ((0 : Nat) : Int)]) hS rfl rfl rfl ?_
  intro br w hbr hS
  refine WL.pv (pv_assign rfl) rfl ?_
  refine WL.nil ?_
  refine QN.thenW ?_
  refine WC.ret ?_
  refine QN.ret1 rfl rfl ?_
  exact ⟨_, _, rfl, hS⟩

end Go.Proofs.Ytjcebkhhgdgohaa
namespace Go.Proofs.Ytjcebkhhgdgohaa
open Go Go.RowKit Go.Eng
theorem cf_107 : callable Try.prog 107 = true := by kernel_rfl
theorem fldT_116_0 : fldT Try.prog 116 0 = some 0 := by kernel_rfl
theorem fldT_116_1 : fldT Try.prog 116 1 = some 1 := by kernel_rfl
theorem oneT_72 : oneT Try.prog 72 = true := by kernel_rfl
theorem oneT_74 : oneT Try.prog 74 = true := by kernel_rfl

/-- What the sectors' reader meets. -/
structure JF (b2 b3 bj bd bn half ar n : Nat) (num : UInt64) (hold : Int) (S1 S2 : Value) (ss : List (List UInt8)) (w : World) : Prop where
  c2 : w.cell? ⟨b2, 0, none⟩ = some (.pointer (some ⟨bj, 0, none⟩))
  c3 : w.cell? ⟨b3, 0, none⟩ = some (.int .i64 (ar : Int))
  cj : Bk w bj 116 [.pointer (some ⟨bd, 0, none⟩), .int .i64 (half : Int), w64 num, .int .i64 hold, S1, S2]
  cd : ∃ vs vp, Bk w bd 114 [vs, .slice (some ⟨bn, 0, none⟩) n n, vp, .int .i64 (-1), .bool false]
  cn : Bk w bn 153 (kc ss)
  ds : Dsk n ss
theorem JF.no {b2 b3 bj bd bn half ar n : Nat} {num : UInt64} {hold : Int} {S1 S2 : Value} {ss : List (List UInt8)} {w w' : World} (h : JF b2 b3 bj bd bn half ar n num hold S1 S2 ss w) (hf : Fr No w w') : JF b2 b3 bj bd bn half ar n num hold S1 S2 ss w' :=
  ⟨hf.cellS h.c2 (fun h => h), hf.cellS h.c3 (fun h => h), h.cj.fr hf (fun h => h), by obtain ⟨vs, vp, hb⟩ := h.cd; exact ⟨vs, vp, hb.fr hf (fun h => h)⟩, h.cn.fr hf (fun h => h), h.ds⟩

set_option maxRecDepth 100000 in
theorem sectors_c (bj ar : Nat) (w0 : World) : Calls Try.prog 90 #[.pointer (some ⟨bj, 0, none⟩), .int .i64 (ar : Int)] w0 fun e w => ∃ b2 b3, e = .returned (.func (.func 106) #[] #[.pointer (some ⟨b2, 0, none⟩), .pointer (some ⟨b3, 0, none⟩)]) ∧ ST w0 No w [.blk b3 3 [.int .i64 (ar : Int)], .blk b2 74 [.pointer (some ⟨bj, 0, none⟩)]] := by
  refine calls_of_WC (args := [.pointer (some ⟨bj, 0, none⟩), .int .i64 (ar : Int)]) Try.func90 rfl Try.ntmps90 rfl ?_
  show WC _ _ _ _ [(0, .pointer (some ⟨bj, 0, none⟩)), (1, .int .i64 (ar : Int))] _
  have hS := ST.start w0 No
  refine WC.seq ?_
  refine WC.region ?_
  refine WL.box (vs := _) hS rfl rfl rfl ?_
  intro b2 w hb2 hS
  refine WL.box (vs := _) hS rfl rfl rfl ?_
  intro b3 w hb3 hS
  refine WL.pv (pv_assign rfl) rfl ?_
  refine WL.nil ?_
  refine QN.thenW ?_
  refine WC.seq ?_
  refine WC.region ?_
  refine WL.pv (pv_func (cap := [.tmp 2, .tmp 3]) rfl) rfl ?_
  refine WL.pv (pv_assign rfl) rfl ?_
  refine WL.nil ?_
  refine QN.thenW ?_
  refine WC.ret ?_
  refine QN.ret1 rfl rfl ?_
  exact ⟨_, _, rfl, hS⟩

set_option maxRecDepth 100000 in
theorem sect_c (b2 b3 bj bd bn half ar n L : Nat) (num : UInt64) (hold : Int) (S1 S2 : Value) (F : Nat → List (List UInt8)) (J : Nat → World → Prop) (w0 : World) (hJ : ∀ i w, J i w → JF b2 b3 bj bd bn half ar n num hold S1 S2 (F i) w) (hh : ar * half + half ≤ n) (hn : n ≤ 2048) (hy : ∀ i w b w1, i < half → J i w → Fr No w w1 → Bk w1 b 153 (bs8 ((F i).getD (ar * half + i) [])) → w.heap.size ≤ b → YieldOk Try.prog L (.slice (some ⟨b, 0, none⟩) 64 64) w1 fun e w2 => e = .returned (.bool true) ∧ J (i + 1) w2) (h0 : J 0 w0) : Calls Try.prog 106 #[.func (.yield L) #[] #[], .pointer (some ⟨b2, 0, none⟩), .pointer (some ⟨b3, 0, none⟩)] w0 fun e w => e = .returned (.tuple #[]) ∧ J half w := by
  refine calls_of_WC (args := [.func (.yield L) #[] #[], .pointer (some ⟨b2, 0, none⟩), .pointer (some ⟨b3, 0, none⟩)]) Try.func106 rfl Try.ntmps106 rfl ?_
  show WC _ _ _ _ [(0, .func (.yield L) #[] #[]), (1, .pointer (some ⟨b2, 0, none⟩)), (2, .pointer (some ⟨b3, 0, none⟩))] _
  have hS := ST.start w0 No
  refine WC.seq ?_
  refine WC.region ?_
  refine WL.rv (rv_load oneT_74 rfl (hJ 0 _ h0).c2) rfl ?_
  refine WL.pv (pv_nil rfl) rfl ?_
  refine WL.pv (pv_fieldAddr fldT_116_1 rfl) rfl ?_
  refine WL.rv (rv_load oneT_3 rfl (by rw [(hJ 0 _ h0).cj.cell]; rfl)) rfl ?_
  refine WL.pv (pv_move rfl) rfl ?_
  refine WL.nil ?_
  refine QN.thenW ?_
  refine WC.block ?_
  refine WC.loop (α := Nat) (fun i => [(0, .func (.yield L) #[] #[]), (1, .pointer (some ⟨b2, 0, none⟩)), (2, .pointer (some ⟨b3, 0, none⟩)), (10, .int .i64 (half : Int)), (11, .int .i64 (i : Int))]) (fun i w => i ≤ half ∧ J i w) (fun i => half - i) (0) (Sub.cons rfl (Sub.cons rfl (Sub.cons rfl (Sub.cons rfl (Sub.cons rfl Sub.nil))))) ⟨by omega, h0⟩ ?_
  rintro i w N hN hR
  obtain ⟨hi, hJi⟩ := hR
  have hFi := hJ i _ hJi
  have hS := ST.start w No
  refine WC.seq ?_
  refine WC.region ?_
  refine WL.pv (pv_lss rfl rfl) rfl ?_
  refine WL.nil ?_
  refine QN.thenW ?_
  refine WC.seq ?_
  refine WC.condD rfl (fun hc12 => ?_) (fun hc12 => ?_)
  · skip
    have hlt : i < half := by omega
    refine WC.skip ?_
    refine QN.thenW ?_
    refine WC.seq ?_
    refine WC.block ?_
    refine WC.seq ?_
    refine WC.region ?_
    refine WL.pv (pv_move rfl) rfl ?_
    refine WL.pv (pv_assign rfl) rfl ?_
    refine WL.nil ?_
    refine QN.thenW ?_
    refine WC.seq ?_
    refine WC.draw (S := fun w => JF b2 b3 bj bd bn half ar n num hold S1 S2 (F i) w) (fuel := 18) (listed := #[false, false, false, false, false, false, false, false, false, false, false, false, false, false, false, false, false, false]) mixedO rfl rfl ?_
    have hS := hS.no (Fr.drew _)
    have hFw := hFi.no (Fr.drew _)
    obtain ⟨vs, vp, hbd⟩ := hFw.cd
    have hmul : (ar : Int) * (half : Int) + (i : Int) = ((ar * half + i : Nat) : Int) := by rw [Int.natCast_add, Int.natCast_mul]
    have hss := hFi.ds.len
    refine WH.take (listed' := #[true, false, false, false, false, false, false, false, false, false, false, false, false, false, false, false, false, false]) 0 rfl (by kernel_rfl) (by kernel_rfl) (by kernel_rfl) (fun _ _ _ h => h) rfl (fun w hS => rv_load oneT_74 rfl hS.c2) hFw rfl ?_
    refine WH.take (listed' := #[true, true, false, false, false, false, false, false, false, false, false, false, false, false, false, false, false, false]) 1 rfl (by kernel_rfl) (by kernel_rfl) (by kernel_rfl) (fun _ _ _ h => h) rfl (fun w _ => PV.rv (pv_nil rfl) w) hFw rfl ?_
    refine WH.take (listed' := #[true, true, true, false, false, false, false, false, false, false, false, false, false, false, false, false, false, false]) 2 rfl (by kernel_rfl) (by kernel_rfl) (by kernel_rfl) (fun _ _ _ h => h) rfl (fun w _ => PV.rv (pv_fieldAddr fldT_116_0 rfl) w) hFw rfl ?_
    refine WH.take (listed' := #[true, true, true, true, false, false, false, false, false, false, false, false, false, false, false, false, false, false]) 3 rfl (by kernel_rfl) (by kernel_rfl) (by kernel_rfl) (fun _ _ _ h => h) rfl (fun w hS => rv_load oneT_72 rfl (by rw [hS.cj.cell]; rfl)) hFw rfl ?_
    refine WH.take (listed' := #[true, true, true, true, true, false, false, false, false, false, false, false, false, false, false, false, false, false]) 4 rfl (by kernel_rfl) (by kernel_rfl) (by kernel_rfl) (fun _ _ _ h => h) rfl (fun w hS => rv_load oneT_3 rfl hS.c3) hFw rfl ?_
    refine WH.take (listed' := #[true, true, true, true, true, true, false, false, false, false, false, false, false, false, false, false, false, false]) 5 rfl (by kernel_rfl) (by kernel_rfl) (by kernel_rfl) (fun _ _ _ h => h) rfl (fun w hS => rv_load oneT_74 rfl hS.c2) hFw rfl ?_
    refine WH.take (listed' := #[true, true, true, true, true, true, true, false, false, false, false, false, false, false, false, false, false, false]) 6 rfl (by kernel_rfl) (by kernel_rfl) (by kernel_rfl) (fun _ _ _ h => h) rfl (fun w _ => PV.rv (pv_nil rfl) w) hFw rfl ?_
    refine WH.take (listed' := #[true, true, true, true, true, true, true, true, false, false, false, false, false, false, false, false, false, false]) 7 rfl (by kernel_rfl) (by kernel_rfl) (by kernel_rfl) (fun _ _ _ h => h) rfl (fun w _ => PV.rv (pv_fieldAddr fldT_116_1 rfl) w) hFw rfl ?_
    refine WH.take (listed' := #[true, true, true, true, true, true, true, true, true, false, false, false, false, false, false, false, false, false]) 8 rfl (by kernel_rfl) (by kernel_rfl) (by kernel_rfl) (fun _ _ _ h => h) rfl (fun w hS => rv_load oneT_3 rfl (by rw [hS.cj.cell]; rfl)) hFw rfl ?_
    refine WH.take (listed' := #[true, true, true, true, true, true, true, true, true, true, false, false, false, false, false, false, false, false]) 9 rfl (by kernel_rfl) (by kernel_rfl) (by kernel_rfl) (fun _ _ _ h => h) rfl (fun w _ => PV.rv (pv_mul rfl rfl (by rw [← Int.natCast_mul]; omega)) w) hFw rfl ?_
    refine WH.take (listed' := #[true, true, true, true, true, true, true, true, true, true, true, false, false, false, false, false, false, false]) 10 rfl (by kernel_rfl) (by kernel_rfl) (by kernel_rfl) (fun _ _ _ h => h) rfl (fun w _ => PV.rv (pv_move rfl) w) hFw rfl ?_
    refine WH.take (listed' := #[true, true, true, true, true, true, true, true, true, true, true, true, false, false, false, false, false, false]) 11 rfl (by kernel_rfl) (by kernel_rfl) (by kernel_rfl) (fun _ _ _ h => h) rfl (fun w _ => PV.rv (pv_add rfl rfl (by rw [hmul]; omega)) w) hFw rfl ?_
    refine WH.one (listed' := #[true, true, true, true, true, true, true, true, true, true, true, true, true, false, false, false, false, false]) 12 rfl (by kernel_rfl) rfl ?_
    refine WL.call (args := [.tmp 18, .tmp 26]) cf_107 rfl rfl (by rw [hmul]; exact readK_c bd bn vs vp n (F i) _ hbd hFw.cn hFw.ds (ar * half + i) (by omega)) ?_
    rintro _ w ⟨b, rfl, hSb⟩
    refine ⟨_, rfl, ?_⟩
    replace hS := hS.no hSb.fr
    replace hFw := hFw.no hSb.fr
    refine WL.nil ?_
    refine QN.held hFw ?_
    refine WH.take (listed' := #[true, true, true, true, true, true, true, true, true, true, true, true, true, true, false, false, false, false]) 13 rfl (by kernel_rfl) (by kernel_rfl) (by kernel_rfl) (fun _ _ _ h => h) rfl (fun w _ => PV.rv (pv_move rfl) w) hFw rfl ?_
    refine WH.take (listed' := #[true, true, true, true, true, true, true, true, true, true, true, true, true, true, true, false, false, false]) 14 rfl (by kernel_rfl) (by kernel_rfl) (by kernel_rfl) (fun _ _ _ h => h) rfl (fun w _ => PV.rv (pv_extL rfl rfl) w) hFw rfl ?_
    refine WH.take (listed' := #[true, true, true, true, true, true, true, true, true, true, true, true, true, true, true, true, false, false]) 15 rfl (by kernel_rfl) (by kernel_rfl) (by kernel_rfl) (fun _ _ _ h => h) rfl (fun w _ => PV.rv (pv_extL rfl rfl) w) hFw rfl ?_
    refine WH.take (listed' := #[true, true, true, true, true, true, true, true, true, true, true, true, true, true, true, true, true, false]) 16 rfl (by kernel_rfl) (by kernel_rfl) (by kernel_rfl) (fun _ _ _ h => h) rfl (fun w _ => PV.rv (pv_assign rfl) w) hFw rfl ?_
    refine WH.take (listed' := #[true, true, true, true, true, true, true, true, true, true, true, true, true, true, true, true, true, true]) 17 rfl (by kernel_rfl) (by kernel_rfl) (by kernel_rfl) (fun _ _ _ h => h) rfl (fun w _ => PV.rv (pv_assign rfl) w) hFw rfl ?_
    refine WH.done (by kernel_rfl) ?_
    refine QN.thenW ?_
    refine WC.seq ?_
    refine WC.regionY ?_
    refine WL.pv (pv_move rfl) rfl ?_
    refine WL.pv (pv_neq rfl rfl) rfl ?_
    refine WL.pv (pv_move rfl) rfl ?_
    refine WL.guardT rfl rfl rfl (lkF rfl (by simp)) ?_
    refine WL.pv (pv_move rfl) rfl ?_
    refine WL.guardT rfl rfl rfl (lkF rfl (by simp)) ?_
    refine WL.pv (pv_move rfl) rfl ?_
    refine WL.guardT rfl rfl rfl (lkF rfl (by simp)) ?_
    refine WL.yield rfl rfl rfl rfl (hy i _ b _ hlt hJi hS.fr (by rw [List.getD_eq_getElem?_getD, List.getElem?_eq_getElem (show ar * half + i < (F i).length by omega)]; exact hSb.bk (k := 0) rfl) (by rcases hSb.own' (i := 0) rfl (b := b) rfl with h | h; exact h; exact h.elim)) ?_
    rintro _ w ⟨rfl, hJn⟩
    refine ⟨_, rfl, ?_⟩
    refine WL.guardT rfl rfl rfl (lkF rfl (by simp)) ?_
    refine WL.pv (pv_not rfl) rfl ?_
    refine WL.pv (pv_pick0 (lkF rfl (by simp)) rfl) rfl ?_
    refine WL.nil ?_
    refine QN.offY ?_
    refine QN.thenW ?_
    refine WC.condF rfl rfl ?_
    refine WC.skip ?_
    refine QN.blockN ?_
    refine QN.thenW ?_
    refine WC.region ?_
    refine WL.pv (pv_add rfl rfl (by omega)) rfl ?_
    refine WL.pv (pv_move rfl) rfl ?_
    refine WL.nil ?_
    refine QN.roundE ?_
    refine ⟨(i + 1), (Sub.cons rfl (Sub.cons rfl (Sub.cons rfl (Sub.cons rfl (Sub.cons rfl Sub.nil))))), ⟨by omega, hJn⟩, ?_⟩
    first | omega | (dsimp only; omega)
  · skip
    obtain rfl : i = half := by omega
    refine WC.exit ?_
    refine QN.thenX ?_
    refine QN.thenX ?_
    refine QN.blockX ?_
    refine QN.end0 rfl ?_
    exact ⟨rfl, hJi⟩

end Go.Proofs.Ytjcebkhhgdgohaa
namespace Go.Proofs.Ytjcebkhhgdgohaa
open Go Go.RowKit Go.Eng
theorem cf_106 : callable Try.prog 106 = true := by kernel_rfl
theorem cf_90 : callable Try.prog 90 = true := by kernel_rfl
theorem cf_91 : callable Try.prog 91 = true := by kernel_rfl
theorem cf_92 : callable Try.prog 92 = true := by kernel_rfl
theorem cf_93 : callable Try.prog 93 = true := by kernel_rfl
theorem cf_94 : callable Try.prog 94 = true := by kernel_rfl

/-- Some sectors' bytes. -/
def areaB (ss : List (List UInt8)) (s i : Nat) : List UInt8 := ((List.range i).map fun j => ss.getD (s + j) []).flatten
theorem areaB_succ (ss : List (List UInt8)) (s i : Nat) : areaB ss s (i + 1) = areaB ss s i ++ ss.getD (s + i) [] := by
  simp [areaB, List.range_succ]
theorem areaB_len {ss : List (List UInt8)} (h : KN 64 ss) {s : Nat} : ∀ {i : Nat}, s + i ≤ ss.length → (areaB ss s i).length = 64 * i
  | 0, _ => rfl
  | i + 1, hi => by
    rw [areaB_succ, List.length_append, areaB_len h (by omega), List.getD_eq_getElem?_getD, List.getElem?_eq_getElem (by omega), Option.getD_some, h _ (List.getElem_mem _)]; omega
/-- What is read of an area. -/
def RdJ (num : UInt64) (s1 s2 : List UInt8) (w0 : World) (e : Ending) (w : World) : Prop :=
  (num.toNat = 0 → e = .returned (.tuple #[w64 0, .agg #[.slice none 0 0, .slice none 0 0], .bool false]) ∧ Fr No w0 w) ∧
  (num.toNat ≠ 0 → ∃ v1 v2, e = .returned (.tuple #[w64 num, .agg #[v1, v2], .bool true]) ∧ ST w0 No w [.row v1 5 1 (bs8 s1), .row v2 5 1 (bs8 s2)])

set_option maxRecDepth 100000 in
theorem read_c (bj bd bn half ar n : Nat) (num0 : UInt64) (hold : Int) (S1 S2 vs vp : Value) (ss : List (List UInt8)) (w0 : World) (hj : Bk w0 bj 116 [.pointer (some ⟨bd, 0, none⟩), .int .i64 (half : Int), w64 num0, .int .i64 hold, S1, S2]) (hd : Bk w0 bd 114 [vs, .slice (some ⟨bn, 0, none⟩) n n, vp, .int .i64 (-1), .bool false]) (hn : Bk w0 bn 153 (kc ss)) (hds : Dsk n ss) (hh : ar * half + half ≤ n) (num : UInt64) (s1 s2 rest : List UInt8) (hX : (areaB ss (ar * half) half) = recH num s1 s2 ++ rest) (hrest : num.toNat = 0 ∨ ∃ r2, rest = shaV (recH num s1 s2) ++ r2) (hl1 : s1.length ≤ 4000) (hl2 : s2.length ≤ 4000) : Calls Try.prog 72 #[.pointer (some ⟨bj, 0, none⟩), .int .i64 (ar : Int)] w0 (RdJ num s1 s2 w0) := by
  have hdl := hds.len
  have hdle := hds.le
  have hXl := areaB_len hds.all (s := ar * half) (i := half) (by omega)
  have hRl : (recH num s1 s2).length = 8 + (textB s1).length + (textB s2).length := by simp only [recH, List.length_append, beB_len]
  have hXr := congrArg List.length hX
  rw [List.length_append, hRl] at hXr
  have hnum : numBE (((areaB ss (ar * half) half).drop 0).take 8) = num := by
    rw [List.drop_zero, hX, recH, List.append_assoc, List.append_assoc, List.take_left' (beB_len _ _), num_8]
  have hd1 : (areaB ss (ar * half) half).drop (0 + 8) = textB s1 ++ (textB s2 ++ rest) := by
    rw [hX, recH, List.append_assoc, List.append_assoc, List.drop_left' (by rw [beB_len])]
  have hd2 : (areaB ss (ar * half) half).drop (0 + 8 + (textB s1).length) = textB s2 ++ rest := by
    rw [← List.drop_drop, hd1, List.drop_left]
  have hd3 : (areaB ss (ar * half) half).drop (0 + 8 + (textB s1).length + (textB s2).length) = rest := by
    rw [← List.drop_drop, hd2, List.drop_left]
  have ht3 : (areaB ss (ar * half) half).take (0 + 8 + (textB s1).length + (textB s2).length) = recH num s1 s2 := by
    rw [hX, List.take_left' (by omega)]
  refine calls_of_WCM (args := [.pointer (some ⟨bj, 0, none⟩), .int .i64 (ar : Int)]) Try.func72 rfl Try.ntmps72 rfl ?_
  show WC _ _ _ _ [(0, .pointer (some ⟨bj, 0, none⟩)), (1, .int .i64 (ar : Int))] _
  have hS := ST.start w0 No
  refine WC.seq ?_
  refine WC.region ?_
  refine WL.pv (pv_assign rfl) rfl ?_
  refine WL.alloc hS zeroT_78 rfl ?_
  intro b5 w hb5 hS
  refine WL.pv (pv_assign rfl) rfl ?_
  refine WL.nil ?_
  refine QN.thenW ?_
  refine WC.seq ?_
  refine WC.region ?_
  refine WL.alloc hS zeroT_22 rfl ?_
  intro b7 w hb7 hS
  refine WL.nil ?_
  refine QN.thenW ?_
  refine WC.seq ?_
  refine WC.seq ?_
  refine WC.region ?_
  refine WL.pv (pv_move rfl) rfl ?_
  refine WL.pv (pv_move rfl) rfl ?_
  refine WL.call (args := [.tmp 18, .tmp 19]) cf_90 rfl rfl (sectors_c bj ar _) ?_
  rintro _ w ⟨b2, b3, rfl, hS2⟩
  refine ⟨_, rfl, ?_⟩
  replace hS := (hS.join hS2).addNil 5 1
  simp only [List.cons_append, List.nil_append] at hS
  refine WL.nil ?_
  refine QN.thenW ?_
  refine WC.block ?_
  refine WC.rangeF hS rfl cf_106 ?_
  intro a0 fn0 bL bD w hAg hS
  refine ST.nameL hS ?_
  intro rL hrL hS
  refine Calls.mono (sect_c b2 b3 bj bd bn half ar n bL num0 hold S1 S2 (fun _ => ss) (fun i w => ∃ v, ST w0 No w [.obj bL (.loop rL), .obj bD (.deferred (some [])), .row v 5 1 (bs8 (areaB ss (ar * half) i)), .blk b3 3 [.int .i64 (ar : Int)], .blk b2 74 [.pointer (some ⟨bj, 0, none⟩)], .blk b7 22 [v], .blk b5 78 [.slice none 0 0, .slice none 0 0]]) _ (fun i w hJ => by obtain ⟨v, hS⟩ := hJ; exact ⟨hS.cell (k := 4) rfl rfl, hS.cell (k := 3) rfl rfl, hj.fr hS.fr (fun h => h), ⟨_, _, hd.fr hS.fr (fun h => h)⟩, hn.fr hS.fr (fun h => h), hds⟩) hh hds.le ?_ ⟨_, hS⟩) ?_
  · skip
    intro i w b w1 hi hJi hFr hBk hge
    obtain ⟨v, hS⟩ := hJi
    subst hrL
    replace hS := hS.add (e := .blk b 153 _) hFr hBk (fun x hx => by simp [Ent.block] at hx; subst hx; exact hge)
    have hsl : (ss.getD (ar * half + i) []).length = 64 := by rw [List.getD_eq_getElem?_getD, List.getElem?_eq_getElem (by omega), Option.getD_some, hds.all _ (List.getElem_mem _)]
    have hal := areaB_len hds.all (s := ar * half) (i := i) (by omega)
    refine yieldOk_of hAg rfl (hS.at_ (k := 1) rfl) ?_
    refine WC.region ?_
    refine WL.pv (pv_assign rfl) rfl ?_
    refine WL.nil ?_
    refine QN.beginR (k := 1) hS rfl rfl ?_
    intro w hS
    try simp only [List.set] at hS
    refine WC.block ?_
    refine WC.region ?_
    refine WL.rv (rv_load_blk (k := 6) hS oneT_22 rfl rfl rfl) rfl ?_
    refine WL.pv (pv_move rfl) rfl ?_
    refine WL.append (k := 3) (N := 200000) hS slT_22 zlenT_5 (by decide) rfl rfl rfl (Bk.rsAll (hS.bk (k := 0) rfl) hsl (by simp [maxLen])) bs8_one (by rw [bs8_len, bs8_len]; omega) (by omega) (by simp [maxLen]) rfl ?_
    intro v24 w hFr24 hS
    try simp only [List.set] at hS
    rw [← bs8_app, ← areaB_succ] at hS
    obtain ⟨A24, m24, c24, rfl, _, _, _⟩ := (hS.rw_ (k := 3) rfl).anyForm
    refine WL.store (k := 6) hS sizeT_22 rfl rfl rfl rfl (by simp) ?_
    intro w hS
    try simp only [List.set] at hS
    refine WL.nil ?_
    refine QN.blockN ?_
    refine QN.endR (k := 1) hS rfl ?_
    intro w hS
    try simp only [List.set] at hS
    exact ⟨rfl, _, hS.drop⟩
  · skip
    rintro _ w ⟨rfl, v, hS⟩
    subst hrL
    refine ⟨⟨_, rfl⟩, .ready, none, (by simp), hS.at_ (k := 0) rfl, ?_⟩
    refine QN.putF (k := 0) hS rfl ?_
    intro w hS
    try simp only [List.set] at hS
    obtain ⟨A7, m7, c7, rfl, _, _, _⟩ := (hS.rw_ (k := 2) rfl).anyForm
    refine QN.blockN ?_
    refine QN.thenW ?_
    refine WC.seq ?_
    refine WC.region ?_
    refine WL.rv (rv_load_blk (k := 5) hS oneT_22 rfl rfl rfl) rfl ?_
    refine WL.call (args := [.tmp 25]) cf_91 rfl rfl (rdNew_c _ _ _ (areaB ss (ar * half) half) _ (hS.rw_ (k := 2) rfl).rs (by omega)) ?_
    rintro _ w ⟨br, vr, rfl, hS2⟩
    refine ⟨_, rfl, ?_⟩
    replace hS := hS.join hS2
    simp only [List.cons_append, List.nil_append] at hS
    obtain ⟨Ar, mr, cr, rfl, _, _, _⟩ := (hS.rw_ (k := 1) rfl).anyForm
    replace hS := hS.last
    simp only [List.cons_append, List.nil_append] at hS
    refine WL.pv (pv_assign rfl) rfl ?_
    refine WL.nil ?_
    refine QN.thenW ?_
    refine WC.seq ?_
    refine WC.region ?_
    refine WL.pv (pv_move rfl) rfl ?_
    refine WL.call (args := [.tmp 28, .const (.int .i64 8)]) cf_92 rfl rfl (rdNum_c br Ar mr cr (areaB ss (ar * half) half) 0 _ (hS.bk (k := 8) rfl) (hS.rw_ (k := 0) rfl).rs (fun _ b hb hc => hS.sep' (i := 0) (j := 8) rfl rfl (by omega) (b := b) hb (by rw [hc]; rfl)) 8 (by omega) (by omega) (by omega)) ?_
    rintro _ w ⟨rfl, hF, hB⟩
    refine ⟨_, rfl, ?_⟩
    replace hS := hS.updB (k := 8) rfl hF hB
    simp only [List.set] at hS
    rw [hnum]
    refine WL.pv (pv_move rfl) rfl ?_
    refine WL.pv (pv_extL rfl rfl) rfl ?_
    refine WL.pv (pv_extL rfl rfl) rfl ?_
    refine WL.pv (pv_assign rfl) rfl ?_
    refine WL.pv (pv_assign rfl) rfl ?_
    refine WL.nil ?_
    refine QN.thenW ?_
    refine WC.seq ?_
    refine WC.region ?_
    refine WL.pv (pv_move rfl) rfl ?_
    refine WL.call (args := [.tmp 33, .const (.int .i64 65536)]) cf_93 rfl rfl (rdText_c br Ar mr cr (areaB ss (ar * half) half) (0 + 8) _ (hS.bk (k := 8) rfl) (hS.rw_ (k := 0) rfl).rs (fun _ b hb hc => hS.sep' (i := 0) (j := 8) rfl rfl (by omega) (b := b) hb (by rw [hc]; rfl)) s1 (textB s2 ++ rest) (by omega) hd1) ?_
    rintro _ w ⟨v, rfl, hS2⟩
    refine ⟨_, rfl, ?_⟩
    replace hS := ST.call (fr := [.row (.slice Ar mr cr) 5 1 (bs8 (areaB ss (ar * half) half)), .obj bL _, .obj bD (.deferred (some [])), .row _ 5 1 (bs8 (areaB ss (ar * half) half)), .blk b3 3 [.int .i64 (ar : Int)], .blk b2 74 [.pointer (some ⟨bj, 0, none⟩)], .blk b7 22 [_], .blk b5 78 [.slice none 0 0, .slice none 0 0]]) (es := [.blk br 166 [.slice Ar mr cr, .int .i64 (((0 + 8) : Nat) : Int)]]) hS (ST.ofEq hS2)
    simp only [List.cons_append, List.nil_append] at hS
    obtain ⟨A12, m12, c12, rfl, _, _, _⟩ := (hS.rw_ (k := 8) rfl).anyForm
    refine WL.pv (pv_move rfl) rfl ?_
    refine WL.pv (pv_extL rfl rfl) rfl ?_
    refine WL.pv (pv_extL rfl rfl) rfl ?_
    refine WL.pv (pv_assign rfl) rfl ?_
    refine WL.pv (pv_assign rfl) rfl ?_
    refine WL.nil ?_
    refine QN.thenW ?_
    refine WC.seq ?_
    refine WC.region ?_
    refine WL.pv (pv_move rfl) rfl ?_
    refine WL.call (args := [.tmp 38, .const (.int .i64 65536)]) cf_93 rfl rfl (rdText_c br Ar mr cr (areaB ss (ar * half) half) (0 + 8 + (textB s1).length) _ (hS.bk (k := 9) rfl) (hS.rw_ (k := 0) rfl).rs (fun _ b hb hc => hS.sep' (i := 0) (j := 9) rfl rfl (by omega) (b := b) hb (by rw [hc]; rfl)) s2 rest (by omega) hd2) ?_
    rintro _ w ⟨v, rfl, hS2⟩
    refine ⟨_, rfl, ?_⟩
    replace hS := ST.call (fr := [.row (.slice Ar mr cr) 5 1 (bs8 (areaB ss (ar * half) half)), .obj bL _, .obj bD (.deferred (some [])), .row _ 5 1 (bs8 (areaB ss (ar * half) half)), .blk b3 3 [.int .i64 (ar : Int)], .blk b2 74 [.pointer (some ⟨bj, 0, none⟩)], .blk b7 22 [_], .blk b5 78 [.slice none 0 0, .slice none 0 0], .row (.slice A12 m12 c12) 5 1 (bs8 s1)]) (es := [.blk br 166 [.slice Ar mr cr, .int .i64 (((0 + 8 + (textB s1).length) : Nat) : Int)]]) hS (ST.ofEq hS2)
    simp only [List.cons_append, List.nil_append] at hS
    obtain ⟨A14, m14, c14, rfl, _, _, _⟩ := (hS.rw_ (k := 9) rfl).anyForm
    refine WL.pv (pv_move rfl) rfl ?_
    refine WL.pv (pv_extL rfl rfl) rfl ?_
    refine WL.pv (pv_extL rfl rfl) rfl ?_
    refine WL.pv (pv_assign rfl) rfl ?_
    refine WL.pv (pv_assign rfl) rfl ?_
    refine WL.nil ?_
    refine QN.thenW ?_
    refine WC.seq ?_
    refine WC.region ?_
    refine WL.pv (pv_move rfl) rfl ?_
    refine WL.call (args := [.tmp 42]) cf_94 rfl rfl (rdAt_c br (.slice Ar mr cr) (0 + 8 + (textB s1).length + (textB s2).length) _ (hS.bk (k := 10) rfl)) ?_
    rintro _ w ⟨rfl, hF⟩
    refine ⟨_, rfl, ?_⟩
    replace hS := hS.no hF
    refine WL.pv (pv_assign rfl) rfl ?_
    refine WL.nil ?_
    refine QN.thenW ?_
    refine WC.seq ?_
    refine WC.seq ?_
    by_cases hz : num.toNat = 0
    · skip
      refine WC.region ?_
      refine WL.pv (pv_move rfl) rfl ?_
      refine WL.pv (pv_neq rfl rfl) rfl ?_
      refine WL.pv (pv_move rfl) rfl ?_
      refine WL.guardT rfl rfl rfl (lkF rfl (by simp)) ?_
      refine WL.pv (pv_move rfl) rfl ?_
      refine WL.guardT rfl rfl rfl (lkF rfl (by simp)) ?_
      refine WL.pv (pv_neq rfl rfl) rfl ?_
      refine WL.pv (pv_pick0 (lkF rfl (by simp)) rfl) rfl ?_
      refine WL.pv (pv_move rfl) rfl ?_
      refine WL.guardT rfl rfl rfl (lkF rfl (by simp)) ?_
      refine WL.pv (pv_move rfl) rfl ?_
      refine WL.guardT rfl rfl rfl (lkF rfl (by simp)) ?_
      refine WL.pv (pv_neq rfl rfl) rfl ?_
      refine WL.pv (pv_pick0 (lkF rfl (by simp)) rfl) rfl ?_
      refine WL.pv (pv_move rfl) rfl ?_
      refine WL.guardT rfl rfl rfl (lkF rfl (by simp)) ?_
      refine WL.pv (pv_move rfl) rfl ?_
      refine WL.guardT rfl rfl rfl (lkF rfl (by simp)) ?_
      refine WL.pv (pv_eql rfl rfl) rfl ?_
      refine WL.pv (pv_pick0 (lkF rfl (by simp)) rfl) rfl ?_
      refine WL.pv (pv_move rfl) rfl ?_
      refine WL.guardF rfl rfl rfl (lkT rfl (by omega)) rfl rfl ?_
      refine WL.guardF rfl rfl rfl (lkT rfl (by omega)) rfl rfl ?_
      refine WL.guardF rfl rfl rfl (lkT rfl (by omega)) rfl rfl ?_
      refine WL.guardF rfl rfl rfl (lkT rfl (by omega)) rfl rfl ?_
      refine WL.guardF rfl rfl rfl (lkT rfl (by omega)) rfl rfl ?_
      refine WL.pv (pv_pick1 (lkT rfl (by omega)) rfl) rfl ?_
      refine WL.nil ?_
      refine QN.thenW ?_
      refine WC.condT rfl rfl ?_
      refine WC.seq ?_
      refine WC.region ?_
      refine WL.pv (pv_buildS (parts := []) (cells := [.slice none 0 0, .slice none 0 0]) layT_78 zeroT_78 rfl rfl) rfl ?_
      refine WL.pv (pv_assign rfl) rfl ?_
      refine WL.storeAll (k := 7) (vs := [.slice none 0 0, .slice none 0 0]) hS (by rw [sizeT_78]; simp) rfl rfl rfl (by first | (simp; done) | simp [Value.oneCell']) (by simp) ?_
      intro w hS
      try simp only [List.set] at hS
      refine WL.pv (pv_assign rfl) rfl ?_
      refine WL.nil ?_
      refine QN.thenW ?_
      refine WC.ret ?_
      refine QN.thenR ?_
      refine QN.unmark (k := 2) hS rfl rfl ?_
      intro w hS
      try simp only [List.set] at hS
      refine QN.retTKT (k := 7) rfl rfl rfl hS rfl (by rw [aggT_78]; simp) rfl ?_
      exact ⟨fun _ => ⟨rfl, hS.fr⟩, fun h => absurd hz h⟩
    · skip
      obtain ⟨r2, hr2⟩ := hrest.resolve_left hz
      have hr2l := congrArg List.length hr2
      rw [List.length_append, shaV_len] at hr2l
      have h7 := (hS.rw_ (k := 3) rfl).rs.len
      rw [bs8_len] at h7
      have hcutE : ((areaB ss (ar * half) half).drop (0 + 8 + (textB s1).length + (textB s2).length)).take ((0 + 8 + (textB s1).length + (textB s2).length) + 32 - (0 + 8 + (textB s1).length + (textB s2).length)) = shaV (recH num s1 s2) := by
        rw [hd3, hr2, List.take_left' (by rw [shaV_len]; omega)]
      refine WC.region ?_
      refine WL.pv (pv_move rfl) rfl ?_
      refine WL.pv (pv_neq rfl rfl) rfl ?_
      refine WL.pv (pv_move rfl) rfl ?_
      refine WL.guardT rfl rfl rfl (lkF rfl (by simp)) ?_
      refine WL.pv (pv_move rfl) rfl ?_
      refine WL.guardT rfl rfl rfl (lkF rfl (by simp)) ?_
      refine WL.pv (pv_neq rfl rfl) rfl ?_
      refine WL.pv (pv_pick0 (lkF rfl (by simp)) rfl) rfl ?_
      refine WL.pv (pv_move rfl) rfl ?_
      refine WL.guardT rfl rfl rfl (lkF rfl (by simp)) ?_
      refine WL.pv (pv_move rfl) rfl ?_
      refine WL.guardT rfl rfl rfl (lkF rfl (by simp)) ?_
      refine WL.pv (pv_neq rfl rfl) rfl ?_
      refine WL.pv (pv_pick0 (lkF rfl (by simp)) rfl) rfl ?_
      refine WL.pv (pv_move rfl) rfl ?_
      refine WL.guardT rfl rfl rfl (lkF rfl (by simp)) ?_
      refine WL.pv (pv_move rfl) rfl ?_
      refine WL.guardT rfl rfl rfl (lkF rfl (by simp)) ?_
      refine WL.pv (pv_eql rfl rfl) rfl ?_
      refine WL.pv (pv_pick0 (lkF rfl (by simp)) rfl) rfl ?_
      refine WL.pv (pv_move rfl) rfl ?_
      refine WL.guardT rfl rfl rfl (lkF rfl (by omega)) ?_
      refine WL.rv (rv_load_blk (k := 6) hS oneT_22 rfl rfl rfl) rfl ?_
      refine WL.guardT rfl rfl rfl (lkF rfl (by omega)) ?_
      refine WL.pv (pv_len slS_22 rfl) rfl ?_
      refine WL.guardT rfl rfl rfl (lkF rfl (by omega)) ?_
      refine WL.pv (pv_move rfl) rfl ?_
      refine WL.guardT rfl rfl rfl (lkF rfl (by omega)) ?_
      refine WL.pv (pv_sub rfl rfl (by omega)) rfl ?_
      refine WL.guardT rfl rfl rfl (lkF rfl (by omega)) ?_
      refine WL.pv (pv_lss rfl rfl) rfl ?_
      refine WL.pv (pv_pick0 (lkF rfl (by omega)) rfl) rfl ?_
      refine WL.nil ?_
      refine QN.thenW ?_
      refine WC.condDF rfl (by omega) ?_
      refine WC.skip ?_
      refine QN.thenW ?_
      refine WC.seq ?_
      refine WC.region ?_
      refine WL.rv (rv_load_blk (k := 6) hS oneT_22 rfl rfl rfl) rfl ?_
      refine WL.pv (pv_move rfl) rfl ?_
      refine WL.pv (pv_sliceH (b := (0 + 8 + (textB s1).length + (textB s2).length)) slT_22 rfl rfl (by first | rfl | (simp only [bnd]; congr 1; omega)) (by omega)) rfl ?_
      refine WL.call (args := [.tmp 68]) cf_20 rfl rfl (sum_c _ _ _ (recH num s1 s2) _ (by have h9 := Rs.cutH8 (b := (0 + 8 + (textB s1).length + (textB s2).length)) (hS.rw_ (k := 3) rfl).rs (by omega); rw [ht3] at h9; exact h9)) ?_
      rintro _ w ⟨rfl, hF⟩
      refine ⟨_, rfl, ?_⟩
      replace hS := hS.no hF
      refine WL.alloc hS zeroT_25 rfl ?_
      intro b17 w hb17 hS
      refine WL.storeAll (k := 0) (vs := bs8 (shaV (recH num s1 s2))) hS (by rw [sizeT_25, bs8_len, shaV_len]) rfl rfl rfl bs8_one (by rw [bs8_len, shaV_len]; simp) ?_
      intro w hS
      try simp only [List.set] at hS
      refine WL.nil ?_
      refine QN.thenW ?_
      refine WC.seq ?_
      refine WC.np ?_
      refine WC.draw (S := fun w => w.cell? ⟨b7, 0, none⟩ = some (.slice A7 m7 c7)) (fuel := 14) (listed := #[false, false, false, false, false, false, false, false, false, false, false, false, false, false]) mixedO rfl rfl ?_
      have hS := hS.no (Fr.drew _)
      refine WH.take (listed' := #[true, false, false, false, false, false, false, false, false, false, false, false, false, false]) 0 rfl (by kernel_rfl) (by kernel_rfl) (by kernel_rfl) (fun _ _ _ h => h) rfl (fun w _ => PV.rv (pv_move rfl) w) (hS.cell (k := 7) rfl rfl) rfl ?_
      refine WH.take (listed' := #[true, true, false, false, false, false, false, false, false, false, false, false, false, false]) 1 rfl (by kernel_rfl) (by kernel_rfl) (by kernel_rfl) (fun _ _ _ h => h) rfl (fun w _ => PV.rv (pv_move rfl) w) (hS.cell (k := 7) rfl rfl) rfl ?_
      refine WH.take (listed' := #[true, true, true, false, false, false, false, false, false, false, false, false, false, false]) 2 rfl (by kernel_rfl) (by kernel_rfl) (by kernel_rfl) (fun _ _ _ h => h) rfl (fun w _ => PV.rv (pv_move rfl) w) (hS.cell (k := 7) rfl rfl) rfl ?_
      refine WH.take (listed' := #[true, true, true, true, false, false, false, false, false, false, false, false, false, false]) 3 rfl (by kernel_rfl) (by kernel_rfl) (by kernel_rfl) (fun _ _ _ h => h) rfl (fun w _ => PV.rv (pv_buildS (parts := [(0, .tmp 71), (1, .tmp 72)]) (cells := [.slice A12 m12 c12, .slice A14 m14 c14]) layT_78 zeroT_78 rfl rfl) w) (hS.cell (k := 7) rfl rfl) rfl ?_
      refine WH.take (listed' := #[true, true, true, true, true, false, false, false, false, false, false, false, false, false]) 4 rfl (by kernel_rfl) (by kernel_rfl) (by kernel_rfl) (fun _ _ _ h => h) rfl (fun w _ => PV.rv (pv_sliceW arrT_25 rfl) w) (hS.cell (k := 7) rfl rfl) rfl ?_
      refine WH.take (listed' := #[true, true, true, true, true, true, false, false, false, false, false, false, false, false]) 5 rfl (by kernel_rfl) (by kernel_rfl) (by kernel_rfl) (fun _ _ _ h => h) rfl (fun w hS => rv_load oneT_22 rfl hS) (hS.cell (k := 7) rfl rfl) rfl ?_
      refine WH.take (listed' := #[true, true, true, true, true, true, true, false, false, false, false, false, false, false]) 6 rfl (by kernel_rfl) (by kernel_rfl) (by kernel_rfl) (fun _ _ _ h => h) rfl (fun w _ => PV.rv (pv_move rfl) w) (hS.cell (k := 7) rfl rfl) rfl ?_
      refine WH.take (listed' := #[true, true, true, true, true, true, true, true, false, false, false, false, false, false]) 7 rfl (by kernel_rfl) (by kernel_rfl) (by kernel_rfl) (fun _ _ _ h => h) rfl (fun w _ => PV.rv (pv_move rfl) w) (hS.cell (k := 7) rfl rfl) rfl ?_
      refine WH.take (listed' := #[true, true, true, true, true, true, true, true, true, false, false, false, false, false]) 8 rfl (by kernel_rfl) (by kernel_rfl) (by kernel_rfl) (fun _ _ _ h => h) rfl (fun w _ => PV.rv (pv_add rfl rfl (by omega)) w) (hS.cell (k := 7) rfl rfl) rfl ?_
      refine WH.take (listed' := #[true, true, true, true, true, true, true, true, true, true, false, false, false, false]) 9 rfl (by kernel_rfl) (by kernel_rfl) (by kernel_rfl) (fun _ _ _ h => h) rfl (fun w _ => PV.rv (pv_sliceLH (a := (0 + 8 + (textB s1).length + (textB s2).length)) (b := ((0 + 8 + (textB s1).length + (textB s2).length) + 32)) slT_22 rfl rfl rfl (by first | rfl | (simp only [bnd]; congr 1; omega)) (by first | rfl | (simp only [bnd]; congr 1; omega)) (by omega) (by omega)) w) (hS.cell (k := 7) rfl rfl) rfl ?_
      refine WH.one (listed' := #[true, true, true, true, true, true, true, true, true, true, true, false, false, false]) 10 rfl (by kernel_rfl) rfl ?_
      refine WL.call (args := [.tmp 74, .tmp 79]) cf_28 rfl rfl (equal_c _ _ _ _ _ _ (shaV (recH num s1 s2)) (shaV (recH num s1 s2)) _ (Bk.rsAll (hS.bk (k := 0) rfl) (shaV_len _) (by simp [maxLen])) (by have h9 := Rs.cut8 (a := (0 + 8 + (textB s1).length + (textB s2).length)) (b := (0 + 8 + (textB s1).length + (textB s2).length) + 32) (hS.rw_ (k := 4) rfl).rs (by omega) (by omega); rw [hcutE] at h9; exact h9)) ?_
      rintro _ w ⟨rfl, hF⟩
      refine ⟨_, rfl, ?_⟩
      replace hS := hS.no hF
      rw [decide_eq_true rfl]
      refine WL.nil ?_
      refine QN.held (hS.cell (k := 7) rfl rfl) ?_
      refine WH.take (listed' := #[true, true, true, true, true, true, true, true, true, true, true, true, false, false]) 11 rfl (by kernel_rfl) (by kernel_rfl) (by kernel_rfl) (fun _ _ _ h => h) rfl (fun w _ => PV.rv (pv_assign rfl) w) (hS.cell (k := 7) rfl rfl) rfl ?_
      refine WH.one (listed' := #[true, true, true, true, true, true, true, true, true, true, true, true, true, false]) 12 rfl (by kernel_rfl) rfl ?_
      refine WL.storeAll (k := 8) (vs := [.slice A12 m12 c12, .slice A14 m14 c14]) hS (by rw [sizeT_78]; simp) rfl rfl rfl (by first | (simp; done) | simp [Value.oneCell']) (by simp) ?_
      intro w hS
      try simp only [List.set] at hS
      refine WL.nil ?_
      refine QN.held (hS.cell (k := 7) rfl rfl) ?_
      refine WH.take (listed' := #[true, true, true, true, true, true, true, true, true, true, true, true, true, true]) 13 rfl (by kernel_rfl) (by kernel_rfl) (by kernel_rfl) (fun _ _ _ h => h) rfl (fun w _ => PV.rv (pv_assign rfl) w) (hS.cell (k := 7) rfl rfl) rfl ?_
      refine WH.done (by kernel_rfl) ?_
      refine QN.np ?_
      refine QN.thenW ?_
      refine WC.ret ?_
      refine QN.unmark (k := 3) hS rfl rfl ?_
      intro w hS
      try simp only [List.set] at hS
      refine QN.retTKT (k := 8) rfl rfl rfl hS rfl (by rw [aggT_78]; simp) rfl ?_
      exact ⟨fun h => absurd h hz, fun _ => ⟨_, _, rfl, hS.sel2 (i := 9) (j := 10) rfl rfl (by omega)⟩⟩

end Go.Proofs.Ytjcebkhhgdgohaa
namespace Go.Proofs.Ytjcebkhhgdgohaa
open Go Go.RowKit Go.Eng
theorem cf_71 : callable Try.prog 71 = true := by kernel_rfl
theorem cf_72 : callable Try.prog 72 = true := by kernel_rfl
theorem cf_77 : callable Try.prog 77 = true := by kernel_rfl
theorem fldT_116_2 : fldT Try.prog 116 2 = some 2 := by kernel_rfl
theorem fldT_116_3 : fldT Try.prog 116 3 = some 3 := by kernel_rfl
theorem fldT_116_4 : fldT Try.prog 116 4 = some 4 := by kernel_rfl
theorem layT_116 : layOf Try.prog 116 = some [(0, 1), (1, 1), (2, 1), (3, 1), (4, 2)] := by kernel_rfl
theorem zeroT_116 : zeroT Try.prog 116 = some ([.pointer none, .int .i64 0, w64 0, .int .i64 0, .slice none 0 0, .slice none 0 0]) := by kernel_rfl

theorem Rs.nil {w : World} {sz : Nat} : Rs w (.slice none 0 0) sz [] := ⟨none, 0, 0, rfl, Nat.le_refl _, by simp [maxLen], by simp, .inl rfl⟩
/-- What an area holds. -/
structure AI (ss : List (List UInt8)) (half a : Nat) (r : UInt64 × List UInt8 × List UInt8) : Prop where
  is : ∃ rest, areaB ss (a * half) half = recH r.1 r.2.1 r.2.2 ++ rest ∧ (r.1.toNat = 0 ∨ ∃ r2, rest = shaV (recH r.1 r.2.1 r.2.2) ++ r2)
  l1 : r.2.1.length ≤ 4000
  l2 : r.2.2.length ≤ 4000
/-- What is opened, of so many areas. -/
def opn (AR : Nat → UInt64 × List UInt8 × List UInt8) : Nat → UInt64 × Int × List UInt8 × List UInt8
  | 0 => (0, -1, [], [])
  | k + 1 => if (opn AR k).1.toNat < (AR k).1.toNat then ((AR k).1, k, (AR k).2.1, (AR k).2.2) else opn AR k
theorem opn_y {AR : Nat → UInt64 × List UInt8 × List UInt8} {k : Nat} (h : (opn AR k).1.toNat < (AR k).1.toNat) : opn AR (k + 1) = ((AR k).1, (k : Int), (AR k).2.1, (AR k).2.2) := by rw [opn, if_pos h]
theorem opn_n {AR : Nat → UInt64 × List UInt8 × List UInt8} {k : Nat} (h : ¬ (opn AR k).1.toNat < (AR k).1.toNat) : opn AR (k + 1) = opn AR k := by rw [opn, if_neg h]


theorem agg45 (a b c d e f : Value) (j : Nat) : [a, b, c, d, e, f][4 + j]? = [e, f][j]? := by
  match j with
  | 0 => rfl
  | 1 => rfl
  | n + 2 => simp; omega

set_option maxRecDepth 100000 in
theorem room_c (bj bd half : Nat) (num : UInt64) (hold : Int) (A1 A2 : Option Addr) (m1 c1 m2 c2 : Nat) (w0 : World) (hj : Bk w0 bj 116 [.pointer (some ⟨bd, 0, none⟩), .int .i64 (half : Int), w64 num, .int .i64 hold, .slice A1 m1 c1, .slice A2 m2 c2]) (hh : half ≤ 2048) : Calls Try.prog 54 #[.pointer (some ⟨bj, 0, none⟩)] w0 fun e w => e = .returned (.int .i64 ((half : Int) * 64)) ∧ Fr No w0 w := by
  refine calls_of_WC (args := [.pointer (some ⟨bj, 0, none⟩)]) Try.func54 rfl Try.ntmps54 rfl ?_
  show WC _ _ _ _ [(0, .pointer (some ⟨bj, 0, none⟩))] _
  have hS := ST.start w0 No
  refine WC.seq ?_
  refine WC.region ?_
  refine WL.pv (pv_assign rfl) rfl ?_
  refine WL.nil ?_
  refine QN.thenW ?_
  refine WC.seq ?_
  refine WC.seq ?_
  refine WC.region ?_
  refine WL.pv (pv_move rfl) rfl ?_
  refine WL.pv (pv_eqlP Try.underlying74 rfl rfl (by simp)) rfl ?_
  refine WL.nil ?_
  refine QN.thenW ?_
  refine WC.condF rfl rfl ?_
  refine WC.skip ?_
  refine QN.thenW ?_
  refine WC.seq ?_
  refine WC.region ?_
  refine WL.pv (pv_move rfl) rfl ?_
  refine WL.pv (pv_nil rfl) rfl ?_
  refine WL.pv (pv_fieldAddr fldT_116_1 rfl) rfl ?_
  refine WL.rv (rv_load oneT_3 rfl (hS.fr.cellS (by rw [hj.cell]; rfl) (fun h => h))) rfl ?_
  refine WL.pv (pv_mul rfl rfl (by omega)) rfl ?_
  refine WL.pv (pv_assign rfl) rfl ?_
  refine WL.nil ?_
  refine QN.thenW ?_
  refine WC.ret ?_
  refine QN.ret1 rfl rfl ?_
  exact ⟨rfl, hS.fr⟩

set_option maxRecDepth 100000 in
theorem roomNil_c (w0 : World) : Calls Try.prog 54 #[.pointer none] w0 fun e w => e = .returned (.int .i64 0) ∧ Fr No w0 w := by
  refine calls_of_WC (args := [.pointer none]) Try.func54 rfl Try.ntmps54 rfl ?_
  show WC _ _ _ _ [(0, .pointer none)] _
  have hS := ST.start w0 No
  refine WC.seq ?_
  refine WC.region ?_
  refine WL.pv (pv_assign rfl) rfl ?_
  refine WL.nil ?_
  refine QN.thenW ?_
  refine WC.seq ?_
  refine WC.seq ?_
  refine WC.region ?_
  refine WL.pv (pv_move rfl) rfl ?_
  refine WL.pv (pv_eqlP Try.underlying74 rfl rfl (by simp)) rfl ?_
  refine WL.nil ?_
  refine QN.thenW ?_
  refine WC.condT rfl rfl ?_
  refine WC.seq ?_
  refine WC.region ?_
  refine WL.pv (pv_assign rfl) rfl ?_
  refine WL.nil ?_
  refine QN.thenW ?_
  refine WC.ret ?_
  refine QN.thenR ?_
  refine QN.ret1 rfl rfl ?_
  exact ⟨rfl, hS.fr⟩

set_option maxRecDepth 100000 in
theorem stateNil_c (w0 : World) : Calls Try.prog 52 #[.pointer none] w0 fun e w => e = .returned (.tuple #[.agg #[.slice none 0 0, .slice none 0 0], .bool false]) ∧ Fr No w0 w := by
  refine calls_of_WC (args := [.pointer none]) Try.func52 rfl Try.ntmps52 rfl ?_
  show WC _ _ _ _ [(0, .pointer none)] _
  have hS := ST.start w0 No
  refine WC.seq ?_
  refine WC.region ?_
  refine WL.alloc hS zeroT_78 rfl ?_
  intro b2 w hb2 hS
  refine WL.pv (pv_assign rfl) rfl ?_
  refine WL.nil ?_
  refine QN.thenW ?_
  refine WC.seq ?_
  refine WC.seq ?_
  refine WC.region ?_
  refine WL.pv (pv_move rfl) rfl ?_
  refine WL.pv (pv_eqlP Try.underlying74 rfl rfl (by simp)) rfl ?_
  refine WL.pv (pv_move rfl) rfl ?_
  refine WL.guardF rfl rfl rfl (lkB rfl rfl) rfl rfl ?_
  refine WL.guardF rfl rfl rfl (lkB rfl rfl) rfl rfl ?_
  refine WL.guardF rfl rfl rfl (lkB rfl rfl) rfl rfl ?_
  refine WL.guardF rfl rfl rfl (lkB rfl rfl) rfl rfl ?_
  refine WL.guardF rfl rfl rfl (lkB rfl rfl) rfl rfl ?_
  refine WL.pv (pv_pick1 (lkB rfl rfl) rfl) rfl ?_
  refine WL.nil ?_
  refine QN.thenW ?_
  refine WC.condT rfl rfl ?_
  refine WC.seq ?_
  refine WC.region ?_
  refine WL.pv (pv_buildS (parts := []) (cells := [.slice none 0 0, .slice none 0 0]) layT_78 zeroT_78 rfl rfl) rfl ?_
  refine WL.storeAll (k := 0) (vs := [.slice none 0 0, .slice none 0 0]) hS (by rw [sizeT_78]; simp) rfl rfl rfl (by first | (simp; done) | simp [Value.oneCell']) (by simp) ?_
  intro w hS
  try simp only [List.set] at hS
  refine WL.pv (pv_assign rfl) rfl ?_
  refine WL.nil ?_
  refine QN.thenW ?_
  refine WC.ret ?_
  refine QN.thenR ?_
  refine QN.retKT (k := 0) rfl rfl hS rfl (by rw [aggT_78]; simp) rfl ?_
  exact ⟨rfl, hS.fr⟩

set_option maxRecDepth 100000 in
theorem stateNo_c (bj bd half : Nat) (num : UInt64) (hold : Int) (A1 A2 : Option Addr) (m1 c1 m2 c2 : Nat) (w0 : World) (hj : Bk w0 bj 116 [.pointer (some ⟨bd, 0, none⟩), .int .i64 (half : Int), w64 num, .int .i64 hold, .slice A1 m1 c1, .slice A2 m2 c2]) (hh : hold < 0) : Calls Try.prog 52 #[.pointer (some ⟨bj, 0, none⟩)] w0 fun e w => e = .returned (.tuple #[.agg #[.slice none 0 0, .slice none 0 0], .bool false]) ∧ Fr No w0 w := by
  refine calls_of_WC (args := [.pointer (some ⟨bj, 0, none⟩)]) Try.func52 rfl Try.ntmps52 rfl ?_
  show WC _ _ _ _ [(0, .pointer (some ⟨bj, 0, none⟩))] _
  have hS := ST.start w0 No
  refine WC.seq ?_
  refine WC.region ?_
  refine WL.alloc hS zeroT_78 rfl ?_
  intro b2 w hb2 hS
  refine WL.pv (pv_assign rfl) rfl ?_
  refine WL.nil ?_
  refine QN.thenW ?_
  refine WC.seq ?_
  refine WC.seq ?_
  refine WC.region ?_
  refine WL.pv (pv_move rfl) rfl ?_
  refine WL.pv (pv_eqlP Try.underlying74 rfl rfl (by simp)) rfl ?_
  refine WL.pv (pv_move rfl) rfl ?_
  refine WL.guardT rfl rfl rfl (lkB rfl rfl) ?_
  refine WL.pv (pv_move rfl) rfl ?_
  refine WL.guardT rfl rfl rfl (lkB rfl rfl) ?_
  refine WL.pv (pv_nil rfl) rfl ?_
  refine WL.guardT rfl rfl rfl (lkB rfl rfl) ?_
  refine WL.pv (pv_fieldAddr fldT_116_3 rfl) rfl ?_
  refine WL.guardT rfl rfl rfl (lkB rfl rfl) ?_
  refine WL.rv (rv_load oneT_3 rfl (hS.fr.cellS (by rw [hj.cell]; rfl) (fun h => h))) rfl ?_
  refine WL.guardT rfl rfl rfl (lkB rfl rfl) ?_
  refine WL.pv (pv_lss rfl rfl) rfl ?_
  refine WL.pv (pv_pick0 (lkB rfl rfl) rfl) rfl ?_
  refine WL.nil ?_
  refine QN.thenW ?_
  refine WC.condDT rfl (by omega) ?_
  refine WC.seq ?_
  refine WC.region ?_
  refine WL.pv (pv_buildS (parts := []) (cells := [.slice none 0 0, .slice none 0 0]) layT_78 zeroT_78 rfl rfl) rfl ?_
  refine WL.storeAll (k := 0) (vs := [.slice none 0 0, .slice none 0 0]) hS (by rw [sizeT_78]; simp) rfl rfl rfl (by first | (simp; done) | simp [Value.oneCell']) (by simp) ?_
  intro w hS
  try simp only [List.set] at hS
  refine WL.pv (pv_assign rfl) rfl ?_
  refine WL.nil ?_
  refine QN.thenW ?_
  refine WC.ret ?_
  refine QN.thenR ?_
  refine QN.retKT (k := 0) rfl rfl hS rfl (by rw [aggT_78]; simp) rfl ?_
  exact ⟨rfl, hS.fr⟩

set_option maxRecDepth 100000 in
theorem state_c (bj bd half : Nat) (num : UInt64) (hold : Int) (A1 A2 : Option Addr) (m1 c1 m2 c2 : Nat) (w0 : World) (hj : Bk w0 bj 116 [.pointer (some ⟨bd, 0, none⟩), .int .i64 (half : Int), w64 num, .int .i64 hold, .slice A1 m1 c1, .slice A2 m2 c2]) (s1 s2 : List UInt8) (h1 : Rs w0 (.slice A1 m1 c1) 1 (bs8 s1)) (h2 : Rs w0 (.slice A2 m2 c2) 1 (bs8 s2)) (hl1 : s1.length ≤ 4000) (hl2 : s2.length ≤ 4000) (hh : ¬ hold < 0) : Calls Try.prog 52 #[.pointer (some ⟨bj, 0, none⟩)] w0 fun e w => ∃ v1 v2, e = .returned (.tuple #[.agg #[v1, v2], .bool true]) ∧ ST w0 No w [.row v2 5 1 (bs8 s2), .row v1 5 1 (bs8 s1)] := by
  refine calls_of_WC (args := [.pointer (some ⟨bj, 0, none⟩)]) Try.func52 rfl Try.ntmps52 rfl ?_
  show WC _ _ _ _ [(0, .pointer (some ⟨bj, 0, none⟩))] _
  have hS := ST.start w0 No
  refine WC.seq ?_
  refine WC.region ?_
  refine WL.alloc hS zeroT_78 rfl ?_
  intro b2 w hb2 hS
  refine WL.pv (pv_assign rfl) rfl ?_
  refine WL.nil ?_
  refine QN.thenW ?_
  refine WC.seq ?_
  refine WC.seq ?_
  refine WC.region ?_
  refine WL.pv (pv_move rfl) rfl ?_
  refine WL.pv (pv_eqlP Try.underlying74 rfl rfl (by simp)) rfl ?_
  refine WL.pv (pv_move rfl) rfl ?_
  refine WL.guardT rfl rfl rfl (lkB rfl rfl) ?_
  refine WL.pv (pv_move rfl) rfl ?_
  refine WL.guardT rfl rfl rfl (lkB rfl rfl) ?_
  refine WL.pv (pv_nil rfl) rfl ?_
  refine WL.guardT rfl rfl rfl (lkB rfl rfl) ?_
  refine WL.pv (pv_fieldAddr fldT_116_3 rfl) rfl ?_
  refine WL.guardT rfl rfl rfl (lkB rfl rfl) ?_
  refine WL.rv (rv_load oneT_3 rfl (hS.fr.cellS (by rw [hj.cell]; rfl) (fun h => h))) rfl ?_
  refine WL.guardT rfl rfl rfl (lkB rfl rfl) ?_
  refine WL.pv (pv_lss rfl rfl) rfl ?_
  refine WL.pv (pv_pick0 (lkB rfl rfl) rfl) rfl ?_
  refine WL.nil ?_
  refine QN.thenW ?_
  refine WC.condDF rfl (by omega) ?_
  refine WC.skip ?_
  refine QN.thenW ?_
  refine WC.seq ?_
  refine WC.region ?_
  refine WL.pv (pv_move rfl) rfl ?_
  refine WL.pv (pv_nil rfl) rfl ?_
  refine WL.pv (pv_fieldAddr fldT_116_4 rfl) rfl ?_
  refine WL.rv (rv_loadA (cs := [.slice A1 m1 c1, .slice A2 m2 c2]) (by rw [aggT_78]; rfl) rfl (fun j u hu => hS.fr.cellS (by rw [hj.cell, ← hu]; exact agg45 _ _ _ _ _ _ j) (fun h => h))) rfl ?_
  refine WL.call (args := [.tmp 17]) cf_77 rfl rfl (own_c _ _ _ _ _ _ s1 s2 _ (h1.no hS.fr) (h2.no hS.fr) hl1 hl2) ?_
  rintro _ w ⟨v1, v2, rfl, hS2⟩
  refine ⟨_, rfl, ?_⟩
  replace hS := hS.join hS2
  simp only [List.cons_append, List.nil_append] at hS
  obtain ⟨B1, k1, d1, rfl, _, _, _⟩ := (hS.rw_ (k := 1) rfl).anyForm
  obtain ⟨B2, k2, d2, rfl, _, _, _⟩ := (hS.rw_ (k := 0) rfl).anyForm
  refine WL.storeAll (k := 2) (vs := [.slice B1 k1 d1, .slice B2 k2 d2]) hS (by rw [sizeT_78]; simp) rfl rfl rfl (by first | (simp; done) | simp [Value.oneCell']) (by simp) ?_
  intro w hS
  try simp only [List.set] at hS
  refine WL.pv (pv_assign rfl) rfl ?_
  refine WL.nil ?_
  refine QN.thenW ?_
  refine WC.ret ?_
  refine QN.retKT (k := 2) rfl rfl hS rfl (by rw [aggT_78]; simp) rfl ?_
  exact ⟨_, _, rfl, hS.sub (.cons_cons _ (.cons_cons _ (.cons _ .slnil)))⟩

set_option maxRecDepth 100000 in
theorem openNil_c (w0 : World) : Calls Try.prog 50 #[.pointer none] w0 fun e w => e = .returned (.tuple #[.pointer none, .int .i64 15]) ∧ Fr No w0 w := by
  refine calls_of_WC (args := [.pointer none]) Try.func50 rfl Try.ntmps50 rfl ?_
  show WC _ _ _ _ [(0, .pointer none)] _
  have hS := ST.start w0 No
  refine WC.seq ?_
  refine WC.region ?_
  refine WL.pv (pv_assign rfl) rfl ?_
  refine WL.pv (pv_assign rfl) rfl ?_
  refine WL.nil ?_
  refine QN.thenW ?_
  refine WC.seq ?_
  refine WC.block ?_
  refine WC.seq ?_
  refine WC.region ?_
  refine WL.pv (pv_move rfl) rfl ?_
  refine WL.pv (pv_eqlP Try.underlying72 rfl rfl (by simp)) rfl ?_
  refine WL.pv (pv_assign rfl) rfl ?_
  refine WL.nil ?_
  refine QN.thenW ?_
  refine WC.condT rfl rfl ?_
  refine WC.seq ?_
  refine WC.region ?_
  refine WL.pv (pv_assign rfl) rfl ?_
  refine WL.pv (pv_assign rfl) rfl ?_
  refine WL.nil ?_
  refine QN.thenW ?_
  refine WC.ret ?_
  refine QN.blockR ?_
  refine QN.thenR ?_
  refine QN.ret2 rfl rfl rfl ?_
  exact ⟨rfl, hS.fr⟩

set_option maxRecDepth 100000 in
theorem openSmall_c (bd bn n : Nat) (vs vp : Value) (w0 : World) (hd : Bk w0 bd 114 [vs, .slice (some ⟨bn, 0, none⟩) n n, vp, .int .i64 (-1), .bool false]) (hh : n < 4) : Calls Try.prog 50 #[.pointer (some ⟨bd, 0, none⟩)] w0 fun e w => e = .returned (.tuple #[.pointer none, .int .i64 14]) ∧ Fr No w0 w := by
  refine calls_of_WC (args := [.pointer (some ⟨bd, 0, none⟩)]) Try.func50 rfl Try.ntmps50 rfl ?_
  show WC _ _ _ _ [(0, .pointer (some ⟨bd, 0, none⟩))] _
  have hS := ST.start w0 No
  refine WC.seq ?_
  refine WC.region ?_
  refine WL.pv (pv_assign rfl) rfl ?_
  refine WL.pv (pv_assign rfl) rfl ?_
  refine WL.nil ?_
  refine QN.thenW ?_
  refine WC.seq ?_
  refine WC.block ?_
  refine WC.seq ?_
  refine WC.region ?_
  refine WL.pv (pv_move rfl) rfl ?_
  refine WL.pv (pv_eqlP Try.underlying72 rfl rfl (by simp)) rfl ?_
  refine WL.pv (pv_assign rfl) rfl ?_
  refine WL.nil ?_
  refine QN.thenW ?_
  refine WC.condF rfl rfl ?_
  refine WC.seq ?_
  refine WC.region ?_
  refine WL.pv (pv_move rfl) rfl ?_
  refine WL.call (args := [.tmp 13]) cf_71 rfl rfl (lenK_c bd bn vs vp n _ (hd.fr hS.fr (fun h => h))) ?_
  rintro _ w ⟨rfl, hF⟩
  refine ⟨_, rfl, ?_⟩
  replace hS := hS.no hF
  refine WL.pv (pv_lss rfl rfl) rfl ?_
  refine WL.pv (pv_assign rfl) rfl ?_
  refine WL.nil ?_
  refine QN.thenW ?_
  refine WC.condDT rfl (by omega) ?_
  refine WC.seq ?_
  refine WC.region ?_
  refine WL.pv (pv_assign rfl) rfl ?_
  refine WL.pv (pv_assign rfl) rfl ?_
  refine WL.nil ?_
  refine QN.thenW ?_
  refine WC.ret ?_
  refine QN.blockR ?_
  refine QN.thenR ?_
  refine QN.ret2 rfl rfl rfl ?_
  exact ⟨rfl, hS.fr⟩


def OpnPost (bd n : Nat) (AR : Nat → UInt64 × List UInt8 × List UInt8) (w0 : World) (e : Ending) (w : World) : Prop :=
  ∃ bj, ∃ (A1 A2 : Option Addr) (m1 c1 m2 c2 : Nat), e = .returned (.tuple #[.pointer (some ⟨bj, 0, none⟩), .int .i64 0]) ∧ ST w0 No w [.blk bj 116 [.pointer (some ⟨bd, 0, none⟩), .int .i64 ((n / 2 : Nat) : Int), w64 (opn AR 2).1, .int .i64 (opn AR 2).2.1, .slice A1 m1 c1, .slice A2 m2 c2], .row (.slice A1 m1 c1) 5 1 (bs8 (opn AR 2).2.2.1), .row (.slice A2 m2 c2) 5 1 (bs8 (opn AR 2).2.2.2)]

set_option maxRecDepth 100000 in
theorem open_c (bd bn n : Nat) (vs vp : Value) (w0 : World) (hd : Bk w0 bd 114 [vs, .slice (some ⟨bn, 0, none⟩) n n, vp, .int .i64 (-1), .bool false]) (ss : List (List UInt8)) (hbn : Bk w0 bn 153 (kc ss)) (hds : Dsk n ss) (hn4 : 4 ≤ n) (AR : Nat → UInt64 × List UInt8 × List UInt8) (hAI : ∀ k, k < 2 → AI ss (n / 2) k (AR k)) : Calls Try.prog 50 #[.pointer (some ⟨bd, 0, none⟩)] w0 (OpnPost bd n AR w0) := by
  have hdle := hds.le
  refine calls_of_WC (args := [.pointer (some ⟨bd, 0, none⟩)]) Try.func50 rfl Try.ntmps50 rfl ?_
  show WC _ _ _ _ [(0, .pointer (some ⟨bd, 0, none⟩))] _
  have hS := ST.start w0 No
  refine WC.seq ?_
  refine WC.region ?_
  refine WL.pv (pv_assign rfl) rfl ?_
  refine WL.pv (pv_assign rfl) rfl ?_
  refine WL.nil ?_
  refine QN.thenW ?_
  refine WC.seq ?_
  refine WC.block ?_
  refine WC.seq ?_
  refine WC.region ?_
  refine WL.pv (pv_move rfl) rfl ?_
  refine WL.pv (pv_eqlP Try.underlying72 rfl rfl (by simp)) rfl ?_
  refine WL.pv (pv_assign rfl) rfl ?_
  refine WL.nil ?_
  refine QN.thenW ?_
  refine WC.condF rfl rfl ?_
  refine WC.seq ?_
  refine WC.region ?_
  refine WL.pv (pv_move rfl) rfl ?_
  refine WL.call (args := [.tmp 13]) cf_71 rfl rfl (lenK_c bd bn vs vp n _ (hd.fr hS.fr (fun h => h))) ?_
  rintro _ w ⟨rfl, hF⟩
  refine ⟨_, rfl, ?_⟩
  replace hS := hS.no hF
  refine WL.pv (pv_lss rfl rfl) rfl ?_
  refine WL.pv (pv_assign rfl) rfl ?_
  refine WL.nil ?_
  refine QN.thenW ?_
  refine WC.condDF rfl (by omega) ?_
  refine WC.skip ?_
  refine QN.blockN ?_
  refine QN.thenW ?_
  refine WC.seq ?_
  refine WC.region ?_
  refine WL.pv (pv_move rfl) rfl ?_
  refine WL.pv (pv_move rfl) rfl ?_
  refine WL.call (args := [.tmp 17]) cf_71 rfl rfl (lenK_c bd bn vs vp n _ (hd.fr hS.fr (fun h => h))) ?_
  rintro _ w ⟨rfl, hF⟩
  refine ⟨_, rfl, ?_⟩
  replace hS := hS.no hF
  refine WL.pv (pv_quoN (a := n) (b := 2) rfl rfl (by omega) (by omega)) rfl ?_
  refine WL.pv (pv_buildS (parts := [(0, .tmp 16), (1, .tmp 19), (3, .const (.int .i64 (-1)))]) (cells := [.pointer (some ⟨bd, 0, none⟩), .int .i64 ((n / 2 : Nat) : Int), w64 0, .int .i64 (-1), .slice none 0 0, .slice none 0 0]) layT_116 zeroT_116 rfl rfl) rfl ?_
  refine WL.box (vs := [.pointer (some ⟨bd, 0, none⟩), .int .i64 ((n / 2 : Nat) : Int), w64 0, .int .i64 (-1), .slice none 0 0, .slice none 0 0]) hS rfl rfl rfl ?_
  intro bj w hbj hS
  replace hS := (hS.addNil 5 1).addNil 5 1
  replace hS := hS.top 2 rfl
  simp only [List.eraseIdx_zero, List.eraseIdx_cons_succ, List.tail_cons] at hS
  refine WL.pv (pv_assign rfl) rfl ?_
  refine WL.nil ?_
  refine QN.thenW ?_
  refine WC.seq ?_
  refine WC.seq ?_
  refine WC.region ?_
  refine WL.pv (pv_move rfl) rfl ?_
  refine WL.nil ?_
  refine QN.thenW ?_
  refine WC.block ?_
  refine WC.loop (α := Nat) (fun k => [(0, .pointer (some ⟨bd, 0, none⟩)), (4, .pointer (some ⟨bj, 0, none⟩)), (22, .int .i64 (k : Int))]) (fun k w => k ≤ 2 ∧ ∃ (A1 A2 : Option Addr) (m1 c1 m2 c2 : Nat), ST w0 No w [.blk bj 116 [.pointer (some ⟨bd, 0, none⟩), .int .i64 ((n / 2 : Nat) : Int), w64 (opn AR k).1, .int .i64 (opn AR k).2.1, .slice A1 m1 c1, .slice A2 m2 c2], .row (.slice A1 m1 c1) 5 1 (bs8 (opn AR k).2.2.1), .row (.slice A2 m2 c2) 5 1 (bs8 (opn AR k).2.2.2)]) (fun k => 2 - k) (0) (Sub.cons rfl (Sub.cons rfl (Sub.cons rfl Sub.nil))) ⟨by omega, none, none, 0, 0, 0, 0, hS⟩ ?_
  rintro k w N hN hR
  obtain ⟨hk, A1, A2, m1, c1, m2, c2, hS⟩ := hR
  refine WC.seq ?_
  refine WC.region ?_
  refine WL.pv (pv_lss rfl rfl) rfl ?_
  refine WL.nil ?_
  refine QN.thenW ?_
  refine WC.seq ?_
  refine WC.condD rfl (fun hc23 => ?_) (fun hc23 => ?_)
  · skip
    have hk2 : k < 2 := by omega
    obtain ⟨rest, hX, hrest⟩ := (hAI k hk2).is
    have hh : k * (n / 2) + n / 2 ≤ n := by rcases (show k = 0 ∨ k = 1 by omega) with rfl | rfl <;> omega
    refine WC.skip ?_
    refine QN.thenW ?_
    refine WC.seq ?_
    refine WC.block ?_
    refine WC.seq ?_
    refine WC.region ?_
    refine WL.pv (pv_move rfl) rfl ?_
    refine WL.pv (pv_assign rfl) rfl ?_
    refine WL.nil ?_
    refine QN.thenW ?_
    refine WC.seq ?_
    by_cases hz : (AR k).1.toNat = 0
    · skip
      refine WC.region ?_
      refine WL.pv (pv_move rfl) rfl ?_
      refine WL.pv (pv_move rfl) rfl ?_
      refine WL.call (args := [.tmp 26, .tmp 27]) cf_72 rfl rfl (read_c bj bd bn (n / 2) k n (opn AR k).1 (opn AR k).2.1 _ _ vs vp ss _ (hS.bk (k := 0) rfl) (hd.fr hS.fr (fun h => h)) (hbn.fr hS.fr (fun h => h)) hds hh (AR k).1 (AR k).2.1 (AR k).2.2 rest hX hrest (hAI k (by omega)).l1 (hAI k (by omega)).l2) ?_
      rintro _ w ⟨hr0, hr1⟩; obtain ⟨rfl, hF⟩ := hr0 hz
      refine ⟨_, rfl, ?_⟩
      replace hS := hS.no hF
      refine WL.pv (pv_move rfl) rfl ?_
      refine WL.pv (pv_extL rfl rfl) rfl ?_
      refine WL.pv (pv_extL rfl rfl) rfl ?_
      refine WL.pv (pv_extL rfl rfl) rfl ?_
      refine WL.alloc hS zeroT_78 rfl ?_
      intro b7 w hb7 hS
      refine WL.pv (pv_assign rfl) rfl ?_
      refine WL.storeAll (k := 0) (vs := [.slice none 0 0, .slice none 0 0]) hS (by rw [sizeT_78]; simp) rfl rfl rfl (by first | (simp; done) | simp [Value.oneCell']) (by simp) ?_
      intro w hS
      try simp only [List.set] at hS
      have hend : ∃ (A1 A2 : Option Addr) (m1 c1 m2 c2 : Nat), ST w0 No _ [.blk bj 116 [.pointer (some ⟨bd, 0, none⟩), .int .i64 ((n / 2 : Nat) : Int), w64 (opn AR (k + 1)).1, .int .i64 (opn AR (k + 1)).2.1, .slice A1 m1 c1, .slice A2 m2 c2], .row (.slice A1 m1 c1) 5 1 (bs8 (opn AR (k + 1)).2.2.1), .row (.slice A2 m2 c2) 5 1 (bs8 (opn AR (k + 1)).2.2.2)] := ⟨A1, A2, m1, c1, m2, c2, by rw [opn_n (by omega)]; exact hS.sub (.cons _ (.cons_cons _ (.cons_cons _ (.cons_cons _ .slnil))))⟩
      refine WL.pv (pv_assign rfl) rfl ?_
      refine WL.nil ?_
      refine QN.thenW ?_
      refine WC.seq ?_
      refine WC.region ?_
      refine WL.pv (pv_move rfl) rfl ?_
      refine WL.pv (pv_move rfl) rfl ?_
      refine WL.guardF rfl rfl rfl (lkB rfl rfl) rfl rfl ?_
      refine WL.guardF rfl rfl rfl (lkB rfl rfl) rfl rfl ?_
      refine WL.guardF rfl rfl rfl (lkB rfl rfl) rfl rfl ?_
      refine WL.guardF rfl rfl rfl (lkB rfl rfl) rfl rfl ?_
      refine WL.guardF rfl rfl rfl (lkB rfl rfl) rfl rfl ?_
      refine WL.guardF rfl rfl rfl (lkB rfl rfl) rfl rfl ?_
      refine WL.pv (pv_pick0 (lkB rfl rfl) rfl) rfl ?_
      refine WL.nil ?_
      refine QN.thenW ?_
      refine WC.condF rfl rfl ?_
      refine WC.skip ?_
      refine QN.blockN ?_
      refine QN.thenW ?_
      refine WC.region ?_
      refine WL.pv (pv_add rfl rfl (by omega)) rfl ?_
      refine WL.pv (pv_move rfl) rfl ?_
      refine WL.nil ?_
      refine QN.roundE ?_
      refine ⟨(k + 1), (Sub.cons rfl (Sub.cons rfl (Sub.cons rfl Sub.nil))), ⟨by omega, by
  first
  | exact hend
  | exact ⟨B1, B2, k1, d1, k2, d2, by rw [opn_y (by omega)]; exact (hS.top 3 rfl).sub (.cons_cons _ (.cons _ (.cons_cons _ (.cons_cons _ (.cons _ (.cons _ .slnil))))))⟩⟩, ?_⟩
      first | omega | (dsimp only; omega)
    · skip
      refine WC.region ?_
      refine WL.pv (pv_move rfl) rfl ?_
      refine WL.pv (pv_move rfl) rfl ?_
      refine WL.call (args := [.tmp 26, .tmp 27]) cf_72 rfl rfl (read_c bj bd bn (n / 2) k n (opn AR k).1 (opn AR k).2.1 _ _ vs vp ss _ (hS.bk (k := 0) rfl) (hd.fr hS.fr (fun h => h)) (hbn.fr hS.fr (fun h => h)) hds hh (AR k).1 (AR k).2.1 (AR k).2.2 rest hX hrest (hAI k (by omega)).l1 (hAI k (by omega)).l2) ?_
      rintro _ w ⟨hr0, hr1⟩; obtain ⟨v1, v2, rfl, hS2⟩ := hr1 hz
      refine ⟨_, rfl, ?_⟩
      replace hS := hS.join hS2
      simp only [List.cons_append, List.nil_append] at hS
      obtain ⟨B1, k1, d1, rfl, _, _, _⟩ := (hS.rw_ (k := 0) rfl).anyForm
      obtain ⟨B2, k2, d2, rfl, _, _, _⟩ := (hS.rw_ (k := 1) rfl).anyForm
      refine WL.pv (pv_move rfl) rfl ?_
      refine WL.pv (pv_extL rfl rfl) rfl ?_
      refine WL.pv (pv_extL rfl rfl) rfl ?_
      refine WL.pv (pv_extL rfl rfl) rfl ?_
      refine WL.alloc hS zeroT_78 rfl ?_
      intro b7 w hb7 hS
      refine WL.pv (pv_assign rfl) rfl ?_
      refine WL.storeAll (k := 0) (vs := [.slice B1 k1 d1, .slice B2 k2 d2]) hS (by rw [sizeT_78]; simp) rfl rfl rfl (by first | (simp; done) | simp [Value.oneCell']) (by simp) ?_
      intro w hS
      try simp only [List.set] at hS
      refine WL.pv (pv_assign rfl) rfl ?_
      refine WL.nil ?_
      refine QN.thenW ?_
      refine WC.seq ?_
      refine WC.region ?_
      refine WL.pv (pv_move rfl) rfl ?_
      refine WL.pv (pv_move rfl) rfl ?_
      refine WL.guardT rfl rfl rfl (lkB rfl rfl) ?_
      refine WL.pv (pv_move rfl) rfl ?_
      refine WL.guardT rfl rfl rfl (lkB rfl rfl) ?_
      refine WL.pv (pv_move rfl) rfl ?_
      refine WL.guardT rfl rfl rfl (lkB rfl rfl) ?_
      refine WL.pv (pv_nil rfl) rfl ?_
      refine WL.guardT rfl rfl rfl (lkB rfl rfl) ?_
      refine WL.pv (pv_fieldAddrZ fldT_116_2 rfl) rfl ?_
      refine WL.guardT rfl rfl rfl (lkB rfl rfl) ?_
      refine WL.rv (rv_load_blk (k := 3) hS oneT_86 rfl rfl rfl) rfl ?_
      refine WL.guardT rfl rfl rfl (lkB rfl rfl) ?_
      refine WL.pv (pv_gtr rfl rfl) rfl ?_
      refine WL.pv (pv_pick1 (lkB rfl rfl) rfl) rfl ?_
      refine WL.nil ?_
      refine QN.thenW ?_
      refine WC.condD rfl (fun hc40 => ?_) (fun hc40 => ?_)
      · skip
        refine WC.draw (S := fun w => Bk w b7 78 [.slice B1 k1 d1, .slice B2 k2 d2]) (fuel := 15) (listed := #[false, false, false, false, false, false, false, false, false, false, false, false, false, false, false]) mixedO rfl rfl ?_
        have hS := hS.no (Fr.drew _)
        refine WH.take (listed' := #[true, false, false, false, false, false, false, false, false, false, false, false, false, false, false]) 0 rfl (by kernel_rfl) (by kernel_rfl) (by kernel_rfl) (fun _ _ _ h => h) rfl (fun w _ => PV.rv (pv_move rfl) w) (hS.bk (k := 0) rfl) rfl ?_
        refine WH.take (listed' := #[true, true, false, false, false, false, false, false, false, false, false, false, false, false, false]) 1 rfl (by kernel_rfl) (by kernel_rfl) (by kernel_rfl) (fun _ _ _ h => h) rfl (fun w _ => PV.rv (pv_move rfl) w) (hS.bk (k := 0) rfl) rfl ?_
        refine WH.take (listed' := #[true, true, true, false, false, false, false, false, false, false, false, false, false, false, false]) 2 rfl (by kernel_rfl) (by kernel_rfl) (by kernel_rfl) (fun _ _ _ h => h) rfl (fun w _ => PV.rv (pv_move rfl) w) (hS.bk (k := 0) rfl) rfl ?_
        refine WH.take (listed' := #[true, true, true, true, false, false, false, false, false, false, false, false, false, false, false]) 3 rfl (by kernel_rfl) (by kernel_rfl) (by kernel_rfl) (fun _ _ _ h => h) rfl (fun w _ => PV.rv (pv_move rfl) w) (hS.bk (k := 0) rfl) rfl ?_
        refine WH.take (listed' := #[true, true, true, true, true, false, false, false, false, false, false, false, false, false, false]) 4 rfl (by kernel_rfl) (by kernel_rfl) (by kernel_rfl) (fun _ _ _ h => h) rfl (fun w hS => rv_loadA (cs := [.slice B1 k1 d1, .slice B2 k2 d2]) (by rw [aggT_78]; rfl) rfl (fun j u hu => by rw [Nat.zero_add, Bk.cell hS]; exact hu)) (hS.bk (k := 0) rfl) rfl ?_
        refine WH.take (listed' := #[true, true, true, true, true, true, false, false, false, false, false, false, false, false, false]) 5 rfl (by kernel_rfl) (by kernel_rfl) (by kernel_rfl) (fun _ _ _ h => h) rfl (fun w _ => PV.rv (pv_move rfl) w) (hS.bk (k := 0) rfl) rfl ?_
        refine WH.take (listed' := #[true, true, true, true, true, true, true, false, false, false, false, false, false, false, false]) 6 rfl (by kernel_rfl) (by kernel_rfl) (by kernel_rfl) (fun _ _ _ h => h) rfl (fun w _ => PV.rv (pv_nil rfl) w) (hS.bk (k := 0) rfl) rfl ?_
        refine WH.take (listed' := #[true, true, true, true, true, true, true, true, false, false, false, false, false, false, false]) 7 rfl (by kernel_rfl) (by kernel_rfl) (by kernel_rfl) (fun _ _ _ h => h) rfl (fun w _ => PV.rv (pv_fieldAddrZ fldT_116_2 rfl) w) (hS.bk (k := 0) rfl) rfl ?_
        refine WH.one (listed' := #[true, true, true, true, true, true, true, true, true, false, false, false, false, false, false]) 8 rfl (by kernel_rfl) rfl ?_
        refine WL.store (k := 3) hS sizeT_86 rfl rfl rfl rfl (by simp) ?_
        intro w hS
        try simp only [List.set] at hS
        refine WL.nil ?_
        refine QN.held (hS.bk (k := 0) rfl) ?_
        refine WH.take (listed' := #[true, true, true, true, true, true, true, true, true, true, false, false, false, false, false]) 9 rfl (by kernel_rfl) (by kernel_rfl) (by kernel_rfl) (fun _ _ _ h => h) rfl (fun w _ => PV.rv (pv_nil rfl) w) (hS.bk (k := 0) rfl) rfl ?_
        refine WH.take (listed' := #[true, true, true, true, true, true, true, true, true, true, true, false, false, false, false]) 10 rfl (by kernel_rfl) (by kernel_rfl) (by kernel_rfl) (fun _ _ _ h => h) rfl (fun w _ => PV.rv (pv_fieldAddrZ fldT_116_4 rfl) w) (hS.bk (k := 0) rfl) rfl ?_
        refine WH.one (listed' := #[true, true, true, true, true, true, true, true, true, true, true, true, false, false, false]) 11 rfl (by kernel_rfl) rfl ?_
        refine WL.storeA (k := 3) (vs := [.slice B1 k1 d1, .slice B2 k2 d2]) hS (by rw [sizeT_78]; simp) rfl rfl rfl (by first | (simp; done) | simp [Value.oneCell']) (by simp) ?_
        intro w hS
        try simp only [List.set] at hS
        simp only [List.take_succ_cons, List.take_zero, List.drop_succ_cons, List.drop_zero, List.cons_append, List.nil_append, List.length_cons, List.length_nil, Nat.zero_add, Nat.reduceAdd] at hS
        refine WL.nil ?_
        refine QN.held (hS.bk (k := 0) rfl) ?_
        refine WH.take (listed' := #[true, true, true, true, true, true, true, true, true, true, true, true, true, false, false]) 12 rfl (by kernel_rfl) (by kernel_rfl) (by kernel_rfl) (fun _ _ _ h => h) rfl (fun w _ => PV.rv (pv_nil rfl) w) (hS.bk (k := 0) rfl) rfl ?_
        refine WH.take (listed' := #[true, true, true, true, true, true, true, true, true, true, true, true, true, true, false]) 13 rfl (by kernel_rfl) (by kernel_rfl) (by kernel_rfl) (fun _ _ _ h => h) rfl (fun w _ => PV.rv (pv_fieldAddrZ fldT_116_3 rfl) w) (hS.bk (k := 0) rfl) rfl ?_
        refine WH.one (listed' := #[true, true, true, true, true, true, true, true, true, true, true, true, true, true, true]) 14 rfl (by kernel_rfl) rfl ?_
        refine WL.store (k := 3) hS sizeT_3 rfl rfl rfl rfl (by simp) ?_
        intro w hS
        try simp only [List.set] at hS
        refine WL.nil ?_
        refine QN.held (hS.bk (k := 0) rfl) ?_
        refine WH.done (by kernel_rfl) ?_
        refine QN.blockN ?_
        refine QN.thenW ?_
        refine WC.region ?_
        refine WL.pv (pv_add rfl rfl (by omega)) rfl ?_
        refine WL.pv (pv_move rfl) rfl ?_
        refine WL.nil ?_
        refine QN.roundE ?_
        refine ⟨(k + 1), (Sub.cons rfl (Sub.cons rfl (Sub.cons rfl Sub.nil))), ⟨by omega, by
  first
  | exact hend
  | exact ⟨B1, B2, k1, d1, k2, d2, by rw [opn_y (by omega)]; exact (hS.top 3 rfl).sub (.cons_cons _ (.cons _ (.cons_cons _ (.cons_cons _ (.cons _ (.cons _ .slnil))))))⟩⟩, ?_⟩
        first | omega | (dsimp only; omega)
      · skip
        have hend : ∃ (A1 A2 : Option Addr) (m1 c1 m2 c2 : Nat), ST w0 No _ [.blk bj 116 [.pointer (some ⟨bd, 0, none⟩), .int .i64 ((n / 2 : Nat) : Int), w64 (opn AR (k + 1)).1, .int .i64 (opn AR (k + 1)).2.1, .slice A1 m1 c1, .slice A2 m2 c2], .row (.slice A1 m1 c1) 5 1 (bs8 (opn AR (k + 1)).2.2.1), .row (.slice A2 m2 c2) 5 1 (bs8 (opn AR (k + 1)).2.2.2)] := ⟨A1, A2, m1, c1, m2, c2, by rw [opn_n (by omega)]; exact hS.sub (.cons _ (.cons _ (.cons _ (.cons_cons _ (.cons_cons _ (.cons_cons _ .slnil))))))⟩
        refine WC.skip ?_
        refine QN.blockN ?_
        refine QN.thenW ?_
        refine WC.region ?_
        refine WL.pv (pv_add rfl rfl (by omega)) rfl ?_
        refine WL.pv (pv_move rfl) rfl ?_
        refine WL.nil ?_
        refine QN.roundE ?_
        refine ⟨(k + 1), (Sub.cons rfl (Sub.cons rfl (Sub.cons rfl Sub.nil))), ⟨by omega, by
  first
  | exact hend
  | exact ⟨B1, B2, k1, d1, k2, d2, by rw [opn_y (by omega)]; exact (hS.top 3 rfl).sub (.cons_cons _ (.cons _ (.cons_cons _ (.cons_cons _ (.cons _ (.cons _ .slnil))))))⟩⟩, ?_⟩
        first | omega | (dsimp only; omega)
  · skip
    obtain rfl : k = 2 := by omega
    refine WC.exit ?_
    refine QN.thenX ?_
    refine QN.thenX ?_
    refine QN.blockX ?_
    refine QN.thenW ?_
    refine WC.seq ?_
    refine WC.region ?_
    refine WL.pv (pv_move rfl) rfl ?_
    refine WL.pv (pv_assign rfl) rfl ?_
    refine WL.pv (pv_assign rfl) rfl ?_
    refine WL.nil ?_
    refine QN.thenW ?_
    refine WC.ret ?_
    refine QN.ret2 rfl rfl rfl ?_
    exact ⟨bj, A1, A2, m1, c1, m2, c2, rfl, hS⟩

end Go.Proofs.Ytjcebkhhgdgohaa
