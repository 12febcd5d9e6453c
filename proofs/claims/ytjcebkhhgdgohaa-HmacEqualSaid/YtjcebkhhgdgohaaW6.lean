/- What a few functions of the program compute, part W6. -/
import Derived.Test.YtjcebkhhgdgohaaW5
namespace Go.Proofs.Ytjcebkhhgdgohaa
open Go Go.RowKit Go.Eng
theorem cf_56 : callable Try.prog 56 = true := by kernel_rfl
theorem cf_79 : callable Try.prog 79 = true := by kernel_rfl
theorem cf_81 : callable Try.prog 81 = true := by kernel_rfl
theorem fldT_130_0 : fldT Try.prog 130 0 = some 0 := by kernel_rfl
theorem layT_130 : layOf Try.prog 130 = some [(0, 8), (8, 64)] := by kernel_rfl
theorem layT_132 : layOf Try.prog 132 = some [(0, 1), (1, 8), (9, 1), (10, 1)] := by kernel_rfl
theorem slS_29 : (slT Try.prog 29).isSome = true := by kernel_rfl
theorem slT_29 : slT Try.prog 29 = some (22, 1, 24) := by kernel_rfl
theorem zeroT_128 : zeroT Try.prog 128 = some (List.replicate 64 (w32 0)) := by kernel_rfl
theorem zeroT_130 : zeroT Try.prog 130 = some ((List.replicate 8 (w32 0) ++ List.replicate 64 (w32 0))) := by kernel_rfl
theorem zeroT_132 : zeroT Try.prog 132 = some (([.pointer none] ++ List.replicate 8 (w32 0) ++ [.slice none 0 0] ++ [w64 0])) := by kernel_rfl
theorem zeroT_22 : zeroT Try.prog 22 = some ([.slice none 0 0]) := by kernel_rfl

def firstL : List UInt32 := [1779033703, 3144134277, 1013904242, 2773480762, 1359893119, 2600822924, 528734635, 1541459225]
def kL : List UInt32 := [1116352408, 1899447441, 3049323471, 3921009573, 961987163, 1508970993, 2453635748, 2870763221, 3624381080, 310598401, 607225278, 1426881987, 1925078388, 2162078206, 2614888103, 3248222580, 3835390401, 4022224774, 264347078, 604807628, 770255983, 1249150122, 1555081692, 1996064986, 2554220882, 2821834349, 2952996808, 3210313671, 3336571891, 3584528711, 113926993, 338241895, 666307205, 773529912, 1294757372, 1396182291, 1695183700, 1986661051, 2177026350, 2456956037, 2730485921, 2820302411, 3259730800, 3345764771, 3516065817, 3600352804, 4094571909, 275423344, 430227734, 506948616, 659060556, 883997877, 958139571, 1322822218, 1537002063, 1747873779, 1955562222, 2024104815, 2227730452, 2361852424, 2428436474, 2756734187, 3204031479, 3329325298]
def firstW (j : Nat) : UInt32 := firstL.getD j 0
def KW (j : Nat) : UInt32 := kL.getD j 0
def AllPost (w0 : World) (e : Ending) (w : World) : Prop := ∃ bs, e = .returned (.pointer (some ⟨bs, 0, none⟩)) ∧ Fr No w0 w ∧ Bk w bs 130 (cells 8 firstW ++ cells 64 KW) ∧ w0.heap.size ≤ bs
/-- The digest of a text, by the program. -/
def shaV (m : List UInt8) : List UInt8 := finK KW (tks KW (firstW, []) m) (UInt64.ofNat m.length * 8)
theorem K_at {j : Nat} {u : Value} (h : (cells 64 KW)[j]? = some u) : (cells 8 firstW ++ cells 64 KW)[0 + 8 + j]? = some u := by
  rw [List.getElem?_append_right (by rw [cells_len]; omega), cells_len, show 0 + 8 + j - 8 = j from by omega]; exact h
theorem dg0 (bs : Nat) : dg (.pointer (some ⟨bs, 0, none⟩)) firstW (.slice none 0 0) 0 = (.pointer (some ⟨bs, 0, none⟩)) :: (cells 8 firstW ++ [.slice none 0 0, w64 0]) := rfl

set_option maxHeartbeats 2000000 in
set_option maxRecDepth 100000 in
theorem all_c (w0 : World) : Calls Try.prog 79 #[] w0 (AllPost w0) := by
  refine calls_of_WC (args := []) Try.func79 rfl Try.ntmps79 rfl ?_
  show WC _ _ _ _ [] _
  have hS := ST.start w0 No
  refine WC.seq ?_
  refine WC.region ?_
  refine WL.pv (pv_assign rfl) rfl ?_
  refine WL.nil ?_
  refine QN.thenW ?_
  refine WC.seq ?_
  refine WC.region ?_
  refine WL.pv (pv_buildA (parts := [(0, .const (.int .u32 1779033703)), (1, .const (.int .u32 3144134277)), (2, .const (.int .u32 1013904242)), (3, .const (.int .u32 2773480762)), (4, .const (.int .u32 1359893119)), (5, .const (.int .u32 2600822924)), (6, .const (.int .u32 528734635)), (7, .const (.int .u32 1541459225))]) (cells := cells 8 firstW) arrT_127 zeroT_127 rfl (by kernel_rfl)) rfl ?_
  refine WL.pv (pv_buildA (parts := [(0, .const (.int .u32 1116352408)), (1, .const (.int .u32 1899447441)), (2, .const (.int .u32 3049323471)), (3, .const (.int .u32 3921009573)), (4, .const (.int .u32 961987163)), (5, .const (.int .u32 1508970993)), (6, .const (.int .u32 2453635748)), (7, .const (.int .u32 2870763221)), (8, .const (.int .u32 3624381080)), (9, .const (.int .u32 310598401)), (10, .const (.int .u32 607225278)), (11, .const (.int .u32 1426881987)), (12, .const (.int .u32 1925078388)), (13, .const (.int .u32 2162078206)), (14, .const (.int .u32 2614888103)), (15, .const (.int .u32 3248222580)), (16, .const (.int .u32 3835390401)), (17, .const (.int .u32 4022224774)), (18, .const (.int .u32 264347078)), (19, .const (.int .u32 604807628)), (20, .const (.int .u32 770255983)), (21, .const (.int .u32 1249150122)), (22, .const (.int .u32 1555081692)), (23, .const (.int .u32 1996064986)), (24, .const (.int .u32 2554220882)), (25, .const (.int .u32 2821834349)), (26, .const (.int .u32 2952996808)), (27, .const (.int .u32 3210313671)), (28, .const (.int .u32 3336571891)), (29, .const (.int .u32 3584528711)), (30, .const (.int .u32 113926993)), (31, .const (.int .u32 338241895)), (32, .const (.int .u32 666307205)), (33, .const (.int .u32 773529912)), (34, .const (.int .u32 1294757372)), (35, .const (.int .u32 1396182291)), (36, .const (.int .u32 1695183700)), (37, .const (.int .u32 1986661051)), (38, .const (.int .u32 2177026350)), (39, .const (.int .u32 2456956037)), (40, .const (.int .u32 2730485921)), (41, .const (.int .u32 2820302411)), (42, .const (.int .u32 3259730800)), (43, .const (.int .u32 3345764771)), (44, .const (.int .u32 3516065817)), (45, .const (.int .u32 3600352804)), (46, .const (.int .u32 4094571909)), (47, .const (.int .u32 275423344)), (48, .const (.int .u32 430227734)), (49, .const (.int .u32 506948616)), (50, .const (.int .u32 659060556)), (51, .const (.int .u32 883997877)), (52, .const (.int .u32 958139571)), (53, .const (.int .u32 1322822218)), (54, .const (.int .u32 1537002063)), (55, .const (.int .u32 1747873779)), (56, .const (.int .u32 1955562222)), (57, .const (.int .u32 2024104815)), (58, .const (.int .u32 2227730452)), (59, .const (.int .u32 2361852424)), (60, .const (.int .u32 2428436474)), (61, .const (.int .u32 2756734187)), (62, .const (.int .u32 3204031479)), (63, .const (.int .u32 3329325298))]) (vs := [(0, .int .u32 1116352408), (1, .int .u32 1899447441), (2, .int .u32 3049323471), (3, .int .u32 3921009573), (4, .int .u32 961987163), (5, .int .u32 1508970993), (6, .int .u32 2453635748), (7, .int .u32 2870763221), (8, .int .u32 3624381080), (9, .int .u32 310598401), (10, .int .u32 607225278), (11, .int .u32 1426881987), (12, .int .u32 1925078388), (13, .int .u32 2162078206), (14, .int .u32 2614888103), (15, .int .u32 3248222580), (16, .int .u32 3835390401), (17, .int .u32 4022224774), (18, .int .u32 264347078), (19, .int .u32 604807628), (20, .int .u32 770255983), (21, .int .u32 1249150122), (22, .int .u32 1555081692), (23, .int .u32 1996064986), (24, .int .u32 2554220882), (25, .int .u32 2821834349), (26, .int .u32 2952996808), (27, .int .u32 3210313671), (28, .int .u32 3336571891), (29, .int .u32 3584528711), (30, .int .u32 113926993), (31, .int .u32 338241895), (32, .int .u32 666307205), (33, .int .u32 773529912), (34, .int .u32 1294757372), (35, .int .u32 1396182291), (36, .int .u32 1695183700), (37, .int .u32 1986661051), (38, .int .u32 2177026350), (39, .int .u32 2456956037), (40, .int .u32 2730485921), (41, .int .u32 2820302411), (42, .int .u32 3259730800), (43, .int .u32 3345764771), (44, .int .u32 3516065817), (45, .int .u32 3600352804), (46, .int .u32 4094571909), (47, .int .u32 275423344), (48, .int .u32 430227734), (49, .int .u32 506948616), (50, .int .u32 659060556), (51, .int .u32 883997877), (52, .int .u32 958139571), (53, .int .u32 1322822218), (54, .int .u32 1537002063), (55, .int .u32 1747873779), (56, .int .u32 1955562222), (57, .int .u32 2024104815), (58, .int .u32 2227730452), (59, .int .u32 2361852424), (60, .int .u32 2428436474), (61, .int .u32 2756734187), (62, .int .u32 3204031479), (63, .int .u32 3329325298)]) (cells := cells 64 KW) arrT_128 zeroT_128 (by kernel_rfl) (by kernel_rfl)) rfl ?_
  refine WL.pv (pv_buildS (parts := [(0, .tmp 1), (1, .tmp 2)]) (cells := cells 8 firstW ++ cells 64 KW) layT_130 zeroT_130 rfl (by kernel_rfl)) rfl ?_
  refine WL.box (vs := _) hS rfl rfl rfl ?_
  intro b4 w hb4 hS
  refine WL.pv (pv_assign rfl) rfl ?_
  refine WL.nil ?_
  refine QN.thenW ?_
  refine WC.ret ?_
  refine QN.ret1 rfl rfl ?_
  exact ⟨b4, rfl, hS.fr, hS.bk (k := 0) rfl, hb4⟩


def KeyPost (l : List UInt8) (w0 : World) (e : Ending) (w : World) : Prop := e = .returned (.agg (bs8 l).toArray) ∧ Fr No w0 w
theorem outB_len (h : Nat → UInt32) : (outB h).length = 32 := by simp [outB]
theorem shaV_len (m : List UInt8) : (shaV m).length = 32 := by simp [shaV, finK, outB_len]

set_option maxHeartbeats 1000000 in
set_option maxRecDepth 100000 in
theorem of_c (A : Option Addr) (m c : Nat) (ls : List (List UInt8)) (w0 : World) (hl : RsL w0 (.slice A m c) ls) : Calls Try.prog 56 #[.slice A m c] w0 (KeyPost (shaV ls.flatten) w0) := by
  obtain ⟨vs, hvs, hvl, hall⟩ := hl
  have hln := hvs.len
  have hmx : m ≤ 9223372036854775807 := by have := hvs.len; simp only [maxLen] at this; omega
  refine calls_of_WC (args := [.slice A m c]) Try.func56 rfl Try.ntmps56 rfl ?_
  show WC _ _ _ _ [(0, .slice A m c)] _
  have hS := ST.start w0 No
  refine WC.seq ?_
  refine WC.region ?_
  refine WL.alloc hS zeroT_25 rfl ?_
  intro b2 w hb2 hS
  refine WL.nil ?_
  refine QN.thenW ?_
  refine WC.seq ?_
  refine WC.region ?_
  refine WL.call (args := []) cf_79 rfl rfl (all_c _) ?_
  rintro _ w ⟨bs, rfl, hF, hB, hbs⟩
  refine ⟨_, rfl, ?_⟩
  replace hS := hS.add (e := .blk bs 130 _) hF hB (fun b hb => by simp only [Ent.block] at hb; injection hb with hb; omega)
  refine WL.pv (pv_assign rfl) rfl ?_
  refine WL.nil ?_
  refine QN.thenW ?_
  refine WC.seq ?_
  refine WC.region ?_
  refine WL.pv (pv_move rfl) rfl ?_
  refine WL.pv (pv_move rfl) rfl ?_
  refine WL.pv (pv_nil rfl) rfl ?_
  refine WL.pv (pv_fieldAddrZ fldT_130_0 rfl) rfl ?_
  refine WL.rv (rv_load_part (k := 0) (m := 8) hS rfl rfl aggT_127 (by simp [cells_len])) rfl ?_
  refine WL.pv (pv_buildS (parts := [(0, .tmp 8), (1, .tmp 12)]) (cells := dg (.pointer (some ⟨bs, 0, none⟩)) firstW (.slice none 0 0) 0) layT_132 zeroT_132 rfl (by kernel_rfl)) rfl ?_
  refine WL.box (vs := _) hS rfl rfl rfl ?_
  intro b14 w hb14 hS
  replace hS := hS.addNil 5 1
  refine WL.pv (pv_assign rfl) rfl ?_
  refine WL.nil ?_
  refine QN.thenW ?_
  refine WC.seq ?_
  refine WC.seq ?_
  refine WC.region ?_
  refine WL.pv (pv_move rfl) rfl ?_
  refine WL.pv (pv_len slS_29 rfl) rfl ?_
  refine WL.pv (pv_move rfl) rfl ?_
  refine WL.nil ?_
  refine QN.thenW ?_
  refine WC.block ?_
  refine WC.loop (α := Nat) (fun k => [(0, .slice A m c), (2, .pointer (some ⟨b2, 0, none⟩)), (4, .pointer (some ⟨b14, 0, none⟩)), (15, .slice A m c), (16, .int .i64 (m : Int)), (17, .int .i64 (k : Int))]) (fun k w => k ≤ m ∧ ∃ v, ST w0 No w [.row v 5 1 (bs8 (tks KW (firstW, []) (ls.take k).flatten).2), .blk b14 132 (dg (.pointer (some ⟨bs, 0, none⟩)) (tks KW (firstW, []) (ls.take k).flatten).1 v (UInt64.ofNat (ls.take k).flatten.length)), .blk bs 130 (cells 8 firstW ++ cells 64 KW), .blk b2 25 (List.replicate 32 (b8 0))]) (fun k => m - k) (0) (Sub.cons rfl (Sub.cons rfl (Sub.cons rfl (Sub.cons rfl (Sub.cons rfl (Sub.cons rfl Sub.nil)))))) ⟨by omega, _, hS⟩ ?_
  rintro k w N hN hR
  obtain ⟨hk, v, hS⟩ := hR
  refine WC.seq ?_
  refine WC.region ?_
  refine WL.pv (pv_lss rfl rfl) rfl ?_
  refine WL.nil ?_
  refine QN.thenW ?_
  refine WC.seq ?_
  refine WC.condD rfl (fun hc18 => ?_) (fun hc18 => ?_)
  · skip
    have hkm : k < m := by omega
    obtain ⟨bb, o, rfl, _, hc1, hc2, hcell⟩ := hvs.at_ (by omega)
    have hvk := hall k (by omega) (by omega)
    obtain ⟨A', n', c', hv', _, _, hl', _⟩ := id hvk
    rw [hv'] at hvk
    rw [bs8_len, Nat.mul_one] at hl' 
    refine WC.skip ?_
    refine QN.thenW ?_
    refine WC.seq ?_
    refine WC.block ?_
    refine WC.seq ?_
    refine WC.region ?_
    refine WL.pv (pv_indexAddrS1 slT_29 rfl rfl rfl (by omega)) rfl ?_
    refine WL.rv (rv_load oneT_22 rfl (hS.fr.cellS (hcell k _ (by rw [List.getElem?_eq_getElem (by omega), hv'])) (fun h => h))) rfl ?_
    refine WL.pv (pv_assign rfl) rfl ?_
    refine WL.nil ?_
    refine QN.thenW ?_
    refine WC.region ?_
    refine WL.pv (pv_move rfl) rfl ?_
    refine WL.pv (pv_move rfl) rfl ?_
    refine WL.call (args := [.tmp 21, .tmp 22]) cf_80 rfl rfl (take_c b14 bs n' c' A' KW (tks KW (firstW, []) (ls.take k).flatten) v _ (ls[k]'(by omega)) _ (hS.bk (k := 1) rfl) (hS.rw_ (k := 0) rfl) (tks_lt _ _ (by simp) _) (fun j u hu => hS.cell (k := 2) rfl (K_at hu)) (hap (k := 2) (i := 1) (j := 0) hS rfl rfl rfl (by omega) (by omega)) (hvk.no hS.fr) hl'.symm (fun h0 a ha => hold (i := 1) (j := 0) hS rfl rfl (hvk.blkLt (by rw [bs8_len]; exact h0) a ha))) ?_
    rintro _ w ⟨rfl, hF, v2, hB, hR, hbl⟩
    refine ⟨_, rfl, ?_⟩
    replace hS := hS.upd2 (i := 1) (j := 0) rfl rfl hF hB hR hbl
    simp only [List.set] at hS
    rw [← tks_app, ← UInt64.ofNat_add, ← List.length_append] at hS
    have e1 : (ls.take k).flatten ++ ls[k]'(by omega) = (ls.take (k + 1)).flatten := by rw [List.take_succ_eq_append_getElem (by omega), List.flatten_append, List.flatten_singleton]
    rw [e1] at hS
    refine WL.nil ?_
    refine QN.blockN ?_
    refine QN.thenW ?_
    refine WC.region ?_
    refine WL.pv (pv_add rfl rfl (by omega)) rfl ?_
    refine WL.pv (pv_move rfl) rfl ?_
    refine WL.nil ?_
    refine QN.roundE ?_
    refine ⟨(k + 1), (Sub.cons rfl (Sub.cons rfl (Sub.cons rfl (Sub.cons rfl (Sub.cons rfl (Sub.cons rfl Sub.nil)))))), ⟨by omega, _, hS⟩, ?_⟩
    first | omega | (dsimp only; omega)
  · skip
    obtain rfl : k = m := by omega
    refine WC.exit ?_
    refine QN.thenX ?_
    refine QN.thenX ?_
    refine QN.blockX ?_
    refine QN.thenW ?_
    refine WC.seq ?_
    refine WC.region ?_
    refine WL.pv (pv_move rfl) rfl ?_
    refine WL.call (args := [.tmp 25]) cf_81 rfl rfl (end_c b14 bs KW (tks KW (firstW, []) (ls.take k).flatten) v _ _ (hS.bk (k := 1) rfl) (hS.rw_ (k := 0) rfl) (tks_lt _ _ (by simp) _) (fun j u hu => hS.cell (k := 2) rfl (K_at hu)) (hap (k := 2) (i := 1) (j := 0) hS rfl rfl rfl (by omega) (by omega))) ?_
    rintro _ w ⟨rfl, hF⟩
    refine ⟨_, rfl, ?_⟩
    have hb2 := (hS.bk (k := 3) rfl).fr hF (hap (k := 3) (i := 1) (j := 0) hS rfl rfl rfl (by omega) (by omega))
    have hS2 : ST w0 No w [.blk b2 25 (List.replicate 32 (b8 0))] := ⟨hS.fr.trans hF (fun i hi hN => hold (i := 1) (j := 0) hS rfl rfl hi hN), by simpa [Ent.ok] using hb2, fun e he b hb => hS.own e (by simp at he ⊢; simp [he]) b hb, by simp⟩
    clear hS
    have hS := hS2
    refine WL.storeAll (k := 0) (vs := bs8 (finK KW (tks KW (firstW, []) (ls.take k).flatten) (UInt64.ofNat (ls.take k).flatten.length * 8))) hS (by rw [sizeT_25, bs8_len, finK, outB_len]) rfl rfl rfl bs8_one (by simp [bs8_len, finK, outB_len]) ?_
    intro w hS
    try simp only [List.set] at hS
    refine WL.nil ?_
    refine QN.thenW ?_
    refine WC.ret ?_
    refine QN.retK (k := 0) rfl rfl hS rfl (by rw [aggT_25, bs8_len, finK, outB_len]) ?_
    refine ⟨?_, hS.fr⟩
    rw [shaV, List.take_of_length_le (by omega)]

set_option maxRecDepth 100000 in
theorem sum_c (A : Option Addr) (m c : Nat) (bl : List UInt8) (w0 : World) (hb : Rs w0 (.slice A m c) 1 (bs8 bl)) : Calls Try.prog 20 #[.slice A m c] w0 (KeyPost (shaV bl) w0) := by
  refine calls_of_WC (args := [.slice A m c]) Try.func20 rfl Try.ntmps20 rfl ?_
  show WC _ _ _ _ [(0, .slice A m c)] _
  have hS := ST.start w0 No
  refine WC.seq ?_
  refine WC.region ?_
  refine WL.alloc hS zeroT_25 rfl ?_
  intro b2 w hb2 hS
  refine WL.nil ?_
  refine QN.thenW ?_
  refine WC.seq ?_
  refine WC.region ?_
  refine WL.pv (pv_move rfl) rfl ?_
  refine WL.build1 hS slT_29 zeroT_22 rfl rfl rfl rfl ?_
  intro b4 w hb4 hS
  refine WL.call (args := [.tmp 4]) cf_56 rfl rfl (of_c _ 1 1 [bl] _ ⟨[.slice A m c], (hS.bk (k := 0) rfl).rs 0 1 1 1 (by omega) (by simp [maxLen]) (by simp), by simp, fun i hi hj => by simp at hi; subst hi; exact hb.no hS.fr⟩) ?_
  rintro _ w ⟨rfl, hF⟩
  refine ⟨_, rfl, ?_⟩
  replace hS := hS.no hF
  rw [List.flatten_singleton]
  refine WL.storeAll (k := 1) (vs := bs8 (shaV bl)) hS (by rw [sizeT_25, bs8_len, shaV_len]) rfl rfl rfl bs8_one (by simp [bs8_len, shaV_len]) ?_
  intro w hS
  try simp only [List.set] at hS
  refine WL.nil ?_
  refine QN.thenW ?_
  refine WC.ret ?_
  refine QN.retK (k := 1) rfl rfl hS rfl (by rw [aggT_25, bs8_len, shaV_len]) ?_
  exact ⟨rfl, hS.fr⟩

set_option maxRecDepth 100000 in
theorem sums_c (A : Option Addr) (m c : Nat) (ls : List (List UInt8)) (w0 : World) (hl : RsL w0 (.slice A m c) ls) : Calls Try.prog 23 #[.slice A m c] w0 (KeyPost (shaV ls.flatten) w0) := by
  refine calls_of_WC (args := [.slice A m c]) Try.func23 rfl Try.ntmps23 rfl ?_
  show WC _ _ _ _ [(0, .slice A m c)] _
  have hS := ST.start w0 No
  refine WC.seq ?_
  refine WC.region ?_
  refine WL.alloc hS zeroT_25 rfl ?_
  intro b2 w hb2 hS
  refine WL.nil ?_
  refine QN.thenW ?_
  refine WC.seq ?_
  refine WC.region ?_
  refine WL.pv (pv_move rfl) rfl ?_
  refine WL.call (args := [.tmp 3]) cf_56 rfl rfl (of_c A m c ls _ (hl.fr hS.fr (fun _ _ h => h))) ?_
  rintro _ w ⟨rfl, hF⟩
  refine ⟨_, rfl, ?_⟩
  replace hS := hS.no hF
  refine WL.storeAll (k := 0) (vs := bs8 (shaV ls.flatten)) hS (by rw [sizeT_25, bs8_len, shaV_len]) rfl rfl rfl bs8_one (by simp [bs8_len, shaV_len]) ?_
  intro w hS
  try simp only [List.set] at hS
  refine WL.nil ?_
  refine QN.thenW ?_
  refine WC.ret ?_
  refine QN.retK (k := 0) rfl rfl hS rfl (by rw [aggT_25, bs8_len, shaV_len]) ?_
  exact ⟨rfl, hS.fr⟩

end Go.Proofs.Ytjcebkhhgdgohaa
