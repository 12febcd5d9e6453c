/- What a few functions of the program compute, part W3. -/
import Derived.Test.YtjcebkhhgdgohaaProg
import Derived.KernelRfl
import Derived.Test.YtjcebkhhgdgohaaEngL
namespace Go.Proofs.Ytjcebkhhgdgohaa
open Go Go.RowKit Go.Eng
theorem aggT_127 : aggT Try.prog 127 = some 8 := by kernel_rfl
theorem aggT_128 : aggT Try.prog 128 = some 64 := by kernel_rfl
theorem arrT_127 : arrT Try.prog 127 = some (8, 1) := by kernel_rfl
theorem arrT_128 : arrT Try.prog 128 = some (64, 1) := by kernel_rfl
theorem arrT_172 : arrT Try.prog 172 = some (16, 1) := by kernel_rfl
theorem cf_103 : callable Try.prog 103 = true := by kernel_rfl
theorem cf_113 : callable Try.prog 113 = true := by kernel_rfl
theorem cf_114 : callable Try.prog 114 = true := by kernel_rfl
theorem fldT_130_1 : fldT Try.prog 130 1 = some 8 := by kernel_rfl
theorem fldT_132_0 : fldT Try.prog 132 0 = some 0 := by kernel_rfl
theorem fldT_132_1 : fldT Try.prog 132 1 = some 1 := by kernel_rfl
theorem mixedO : Try.prog.follows .mixedOrders = true := by kernel_rfl
theorem oneT_124 : oneT Try.prog 124 = true := by kernel_rfl
theorem oneT_3 : oneT Try.prog 3 = true := by kernel_rfl
theorem oneT_5 : oneT Try.prog 5 = true := by kernel_rfl
theorem oneT_91 : oneT Try.prog 91 = true := by kernel_rfl
theorem sizeT_127 : sizeT Try.prog 127 = some 8 := by kernel_rfl
theorem sizeT_3 : sizeT Try.prog 3 = some 1 := by kernel_rfl
theorem sizeT_91 : sizeT Try.prog 91 = some 1 := by kernel_rfl
theorem slS_22 : (slT Try.prog 22).isSome = true := by kernel_rfl
theorem slT_22 : slT Try.prog 22 = some (5, 1, 1) := by kernel_rfl
theorem someT_3 : (Try.prog.underlying 3).isSome = true := by kernel_rfl
theorem someT_5 : (Try.prog.underlying 5).isSome = true := by kernel_rfl
theorem zeroT_127 : zeroT Try.prog 127 = some (List.replicate 8 (w32 0)) := by kernel_rfl
theorem zeroT_172 : zeroT Try.prog 172 = some (List.replicate 16 (w32 0)) := by kernel_rfl
theorem zeroT_3 : zeroT Try.prog 3 = some ([.int .i64 0]) := by kernel_rfl
def rotl (x : UInt32) (k : Nat) : UInt32 := (x <<< (UInt32.ofNat (k % 32))) ||| shr32 x (32 - k % 32)
theorem and31 : ∀ k, k ≤ 64 → (UInt64.ofNat k &&& 31).toNat = k % 32 := by decide
theorem sub31 : ∀ k, k ≤ 64 → (32 - (UInt64.ofNat k &&& 31)).toNat = 32 - k % 32 := by decide
def rotl64 (x : UInt64) (k : Nat) : UInt64 := (x <<< (UInt64.ofNat (k % 64))) ||| shr64 x (64 - k % 64)
theorem and63 : ∀ k, k ≤ 64 → (UInt64.ofNat k &&& 63).toNat = k % 64 := by decide
theorem sub63 : ∀ k, k ≤ 64 → (64 - (UInt64.ofNat k &&& 63)).toNat = 64 - k % 64 := by decide
set_option maxRecDepth 100000 in
theorem rotl32_c (x : UInt32) (k : Nat) (w0 : World) (hk : k ≤ 64) : Calls Try.prog 103 #[w32 x, .int .i64 (k : Int)] w0 fun e w => e = .returned (w32 (rotl x k)) ∧ w0 = w := by
  refine calls_of_WC (args := [w32 x, .int .i64 (k : Int)]) Try.func103 rfl Try.ntmps103 rfl ?_
  show WC _ _ _ _ [(0, w32 x), (1, .int .i64 (k : Int))] _
  have hS := ST.start w0 No
  refine WC.seq ?_
  refine WC.region ?_
  refine WL.pv (pv_assign rfl) rfl ?_
  refine WL.nil ?_
  refine QN.thenW ?_
  refine WC.seq ?_
  refine WC.region ?_
  refine WL.pv (pv_move rfl) rfl ?_
  refine WL.pv (pv_conv someT_3 Try.underlying164 rfl (cv_i_64 _)) rfl ?_
  refine WL.pv (pv_and64 (b := 31) rfl rfl) rfl ?_
  refine WL.pv (pv_assign rfl) rfl ?_
  refine WL.nil ?_
  refine QN.thenW ?_
  refine WC.seq ?_
  refine WC.region ?_
  refine WL.pv (pv_move rfl) rfl ?_
  refine WL.pv (pv_move rfl) rfl ?_
  refine WL.pv (pv_shl32 rfl rfl (by rw [and31 k hk]; omega)) rfl ?_
  refine WL.pv (pv_move rfl) rfl ?_
  refine WL.pv (pv_move rfl) rfl ?_
  refine WL.pv (pv_sub64 (a := 32) rfl rfl) rfl ?_
  refine WL.pv (pv_shr32g rfl rfl) rfl ?_
  refine WL.pv (pv_or32 rfl rfl) rfl ?_
  refine WL.pv (pv_assign rfl) rfl ?_
  refine WL.nil ?_
  refine QN.thenW ?_
  refine WC.ret ?_
  refine QN.ret1 rfl rfl ?_
  exact ⟨by rw [rotl, and31 k hk, sub31 k hk], rfl⟩

set_option maxRecDepth 100000 in
theorem rotl64_c (x : UInt64) (k : Nat) (w0 : World) (hk : k ≤ 64) : Calls Try.prog 102 #[w64 x, .int .i64 (k : Int)] w0 fun e w => e = .returned (w64 (rotl64 x k)) ∧ w0 = w := by
  refine calls_of_WC (args := [w64 x, .int .i64 (k : Int)]) Try.func102 rfl Try.ntmps102 rfl ?_
  show WC _ _ _ _ [(0, w64 x), (1, .int .i64 (k : Int))] _
  have hS := ST.start w0 No
  refine WC.seq ?_
  refine WC.region ?_
  refine WL.pv (pv_assign rfl) rfl ?_
  refine WL.nil ?_
  refine QN.thenW ?_
  refine WC.seq ?_
  refine WC.region ?_
  refine WL.pv (pv_move rfl) rfl ?_
  refine WL.pv (pv_conv someT_3 Try.underlying164 rfl (cv_i_64 _)) rfl ?_
  refine WL.pv (pv_and64 (b := 63) rfl rfl) rfl ?_
  refine WL.pv (pv_assign rfl) rfl ?_
  refine WL.nil ?_
  refine QN.thenW ?_
  refine WC.seq ?_
  refine WC.region ?_
  refine WL.pv (pv_move rfl) rfl ?_
  refine WL.pv (pv_move rfl) rfl ?_
  refine WL.pv (pv_shl64 rfl rfl (by rw [and63 k hk]; omega)) rfl ?_
  refine WL.pv (pv_move rfl) rfl ?_
  refine WL.pv (pv_move rfl) rfl ?_
  refine WL.pv (pv_sub64 (a := 64) rfl rfl) rfl ?_
  refine WL.pv (pv_shr64g rfl rfl) rfl ?_
  refine WL.pv (pv_or64 rfl rfl) rfl ?_
  refine WL.pv (pv_assign rfl) rfl ?_
  refine WL.nil ?_
  refine QN.thenW ?_
  refine WC.ret ?_
  refine QN.ret1 rfl rfl ?_
  exact ⟨by rw [rotl64, and63 k hk, sub63 k hk], rfl⟩

set_option maxRecDepth 100000 in
theorem at_c (bh bi n i : Nat) (h : Nat → UInt32) (w0 : World) (hn : n < 8) (hi : i < 64) (hh : ∀ j, j < 8 → w0.cell? ⟨bh, j, none⟩ = some (w32 (h j))) (hii : w0.cell? ⟨bi, 0, none⟩ = some (.int .i64 (i : Int))) :
    Calls Try.prog 113 #[.int .i64 (n : Int), .pointer (some ⟨bh, 0, none⟩), .pointer (some ⟨bi, 0, none⟩)] w0 fun e w => e = .returned (w32 (h ((n + 64 - i) % 8))) ∧ w0 = w := by
  refine calls_of_WC (args := [.int .i64 (n : Int), .pointer (some ⟨bh, 0, none⟩), .pointer (some ⟨bi, 0, none⟩)]) Try.func113 rfl Try.ntmps113 rfl ?_
  show WC _ _ _ _ [(0, .int .i64 (n : Int)), (1, .pointer (some ⟨bh, 0, none⟩)), (2, .pointer (some ⟨bi, 0, none⟩))] _
  have hS := ST.start w0 No
  refine WC.seq ?_
  refine WC.region ?_
  refine WL.pv (pv_assign rfl) rfl ?_
  refine WL.nil ?_
  refine QN.thenW ?_
  refine WC.seq ?_
  refine WC.region ?_
  refine WL.pv (pv_move rfl) rfl ?_
  refine WL.pv (pv_add rfl rfl (by omega)) rfl ?_
  refine WL.rv (rv_load oneT_3 rfl hii) rfl ?_
  refine WL.pv (pv_sub rfl rfl (by omega)) rfl ?_
  refine WL.pv (pv_rem rfl rfl (by omega)) rfl ?_
  refine WL.pv (pv_indexAddrA1Z (j := (n + 64 - i) % 8) arrT_127 rfl rfl (by omega) (by omega)) rfl ?_
  refine WL.rv (rv_load oneT_91 rfl (hh _ (by omega))) rfl ?_
  refine WL.pv (pv_assign rfl) rfl ?_
  refine WL.nil ?_
  refine QN.thenW ?_
  refine WC.ret ?_
  refine QN.ret1 rfl rfl ?_
  exact ⟨rfl, rfl⟩


def cells (n : Nat) (r : Nat → UInt32) : List Value := (List.range n).map fun j => w32 (r j)
theorem cells_len (n : Nat) (r : Nat → UInt32) : (cells n r).length = n := by simp [cells]
theorem cells_at {n j : Nat} (r : Nat → UInt32) (h : j < n) : (cells n r)[j]? = some (w32 (r j)) := by simp [cells, h]
def upd (r : Nat → UInt32) (k : Nat) (v : UInt32) : Nat → UInt32 := fun j => if j = k then v else r j
theorem cells_set (n : Nat) (r : Nat → UInt32) (k : Nat) (v : UInt32) : (cells n r).set k (w32 v) = cells n (upd r k v) := by
  apply List.ext_getElem?
  intro j
  rw [List.getElem?_set]
  by_cases hk : k = j
  · subst hk
    rw [if_pos rfl, cells_len]
    by_cases h : k < n
    · rw [if_pos h, cells_at _ h]; simp [upd]
    · rw [if_neg h, List.getElem?_eq_none (by rw [cells_len]; omega)]
  · rw [if_neg hk]
    by_cases h : j < n
    · rw [cells_at _ h, cells_at _ h]; simp [upd, Ne.symm hk]
    · rw [List.getElem?_eq_none (by rw [cells_len]; omega), List.getElem?_eq_none (by rw [cells_len]; omega)]
def sig0 (x : UInt32) : UInt32 := rotl x 25 ^^^ rotl x 14 ^^^ (x >>> UInt32.ofNat 3)
def sig1 (x : UInt32) : UInt32 := rotl x 15 ^^^ rotl x 13 ^^^ (x >>> UInt32.ofNat 10)
/-- The ring behind the word number i. -/
def ringN (r : Nat → UInt32) (i : Nat) : Nat → UInt32 :=
  if 16 ≤ i then upd r (i % 16) (r (i % 16) + (r ((i - 7) % 16) + sig0 (r ((i - 15) % 16)) + sig1 (r ((i - 2) % 16)))) else r
def RingPost (br : Nat) (r : Nat → UInt32) (i : Nat) (w0 : World) (e : Ending) (w : World) : Prop :=
  e = .returned (w32 (ringN r i (i % 16))) ∧ Fr (fun b => b = br) w0 w ∧ Bk w br 172 (cells 16 (ringN r i))

set_option maxRecDepth 100000 in
theorem ring_c (br i : Nat) (r : Nat → UInt32) (w0 : World) (hi : i < 64) (hb : Bk w0 br 172 (cells 16 r)) :
    Calls Try.prog 114 #[.pointer (some ⟨br, 0, none⟩), .int .i64 (i : Int)] w0 (RingPost br r i w0) := by
  refine calls_of_WC (args := [.pointer (some ⟨br, 0, none⟩), .int .i64 (i : Int)]) Try.func114 rfl Try.ntmps114 rfl ?_
  show WC _ _ _ _ [(0, .pointer (some ⟨br, 0, none⟩)), (1, .int .i64 (i : Int))] _
  have hS : ST w0 (fun b => b = br) w0 [.blk br 172 (cells 16 r)] := ST.one hb rfl
  refine WC.seq ?_
  refine WC.region ?_
  refine WL.pv (pv_assign rfl) rfl ?_
  refine WL.nil ?_
  refine QN.thenW ?_
  refine WC.seq ?_
  refine WC.seq ?_
  refine WC.region ?_
  refine WL.pv (pv_move rfl) rfl ?_
  refine WL.pv (pv_geq rfl rfl) rfl ?_
  refine WL.nil ?_
  refine QN.thenW ?_
  refine WC.condD rfl (fun hc10 => ?_) (fun hc10 => ?_)
  · skip
    refine WC.seq ?_
    refine WC.still mixedO (by kernel_rfl) ?_
    have hS := hS.no (Fr.drew _)
    refine WS.pv (pv_move rfl) rfl ?_
    refine WS.pv (pv_move rfl) rfl ?_
    refine WS.pv (pv_sub rfl rfl (by omega)) rfl ?_
    refine WS.pv (pv_rem rfl rfl (by omega)) rfl ?_
    refine WS.pv (pv_nil rfl) rfl ?_
    refine WS.pv (pv_indexAddrA1Z (j := (i - 15) % 16) arrT_172 rfl rfl (by omega) (by omega)) rfl ?_
    refine WS.rv (rv_load_blk (k := 0) hS oneT_91 rfl rfl (cells_at r (by omega))) rfl ?_
    refine WS.pv (pv_move rfl) rfl ?_
    refine WS.pv (pv_move rfl) rfl ?_
    refine WS.pv (pv_sub rfl rfl (by omega)) rfl ?_
    refine WS.pv (pv_rem rfl rfl (by omega)) rfl ?_
    refine WS.pv (pv_nil rfl) rfl ?_
    refine WS.pv (pv_indexAddrA1Z (j := (i - 2) % 16) arrT_172 rfl rfl (by omega) (by omega)) rfl ?_
    refine WS.rv (rv_load_blk (k := 0) hS oneT_91 rfl rfl (cells_at r (by omega))) rfl ?_
    refine WS.pv (pv_assign rfl) rfl ?_
    refine WS.pv (pv_assign rfl) rfl ?_
    refine WS.done ?_
    refine QN.thenW ?_
    refine WC.seq ?_
    refine WC.region ?_
    refine WL.pv (pv_move rfl) rfl ?_
    refine WL.call (args := [.tmp 25, .const (.int .i64 25)]) cf_103 rfl rfl (rotl32_c _ 25 _ (by omega)) ?_
    rintro _ _ ⟨rfl, rfl⟩
    refine ⟨_, rfl, ?_⟩
    refine WL.pv (pv_move rfl) rfl ?_
    refine WL.call (args := [.tmp 27, .const (.int .i64 14)]) cf_103 rfl rfl (rotl32_c _ 14 _ (by omega)) ?_
    rintro _ _ ⟨rfl, rfl⟩
    refine ⟨_, rfl, ?_⟩
    refine WL.pv (pv_xor32 rfl rfl) rfl ?_
    refine WL.pv (pv_move rfl) rfl ?_
    refine WL.pv (pv_shr32 (c := 3) rfl rfl (by omega)) rfl ?_
    refine WL.pv (pv_xor32 rfl rfl) rfl ?_
    refine WL.pv (pv_assign rfl) rfl ?_
    refine WL.nil ?_
    refine QN.thenW ?_
    refine WC.seq ?_
    refine WC.region ?_
    refine WL.pv (pv_move rfl) rfl ?_
    refine WL.call (args := [.tmp 33, .const (.int .i64 15)]) cf_103 rfl rfl (rotl32_c _ 15 _ (by omega)) ?_
    rintro _ _ ⟨rfl, rfl⟩
    refine ⟨_, rfl, ?_⟩
    refine WL.pv (pv_move rfl) rfl ?_
    refine WL.call (args := [.tmp 35, .const (.int .i64 13)]) cf_103 rfl rfl (rotl32_c _ 13 _ (by omega)) ?_
    rintro _ _ ⟨rfl, rfl⟩
    refine ⟨_, rfl, ?_⟩
    refine WL.pv (pv_xor32 rfl rfl) rfl ?_
    refine WL.pv (pv_move rfl) rfl ?_
    refine WL.pv (pv_shr32 (c := 10) rfl rfl (by omega)) rfl ?_
    refine WL.pv (pv_xor32 rfl rfl) rfl ?_
    refine WL.pv (pv_assign rfl) rfl ?_
    refine WL.nil ?_
    refine QN.thenW ?_
    refine WC.stillTail 20 mixedO (by kernel_rfl) ?_
    have hS := hS.no (Fr.drew _)
    refine WS.pv (pv_move rfl) rfl ?_
    refine WS.pv (pv_move rfl) rfl ?_
    refine WS.pv (pv_rem rfl rfl (by omega)) rfl ?_
    refine WS.pv (pv_nil rfl) rfl ?_
    refine WS.pv (pv_indexAddrA1Z (j := i % 16) arrT_172 rfl rfl (by omega) (by omega)) rfl ?_
    refine WS.rv (rv_load_blk (k := 0) hS oneT_91 rfl rfl (cells_at r (by omega))) rfl ?_
    refine WS.pv (pv_move rfl) rfl ?_
    refine WS.pv (pv_move rfl) rfl ?_
    refine WS.pv (pv_sub rfl rfl (by omega)) rfl ?_
    refine WS.pv (pv_rem rfl rfl (by omega)) rfl ?_
    refine WS.pv (pv_nil rfl) rfl ?_
    refine WS.pv (pv_indexAddrA1Z (j := (i - 7) % 16) arrT_172 rfl rfl (by omega) (by omega)) rfl ?_
    refine WS.rv (rv_load_blk (k := 0) hS oneT_91 rfl rfl (cells_at r (by omega))) rfl ?_
    refine WS.pv (pv_move rfl) rfl ?_
    refine WS.pv (pv_add32 rfl rfl) rfl ?_
    refine WS.pv (pv_move rfl) rfl ?_
    refine WS.pv (pv_add32 rfl rfl) rfl ?_
    refine WS.pv (pv_add32 rfl rfl) rfl ?_
    refine WS.pv (pv_nil rfl) rfl ?_
    refine WS.pv (pv_indexAddrA1Z (j := i % 16) arrT_172 rfl rfl (by omega) (by omega)) rfl ?_
    refine WS.tail ?_
    refine WL.store (k := 0) hS sizeT_91 rfl rfl rfl rfl (by rw [cells_len]; omega) ?_
    intro w hS
    try simp only [List.set] at hS
    rw [cells_set] at hS
    refine WL.nil ?_
    refine QN.thenW ?_
    refine WC.seq ?_
    refine WC.region ?_
    refine WL.pv (pv_move rfl) rfl ?_
    refine WL.pv (pv_move rfl) rfl ?_
    refine WL.pv (pv_rem rfl rfl (by omega)) rfl ?_
    refine WL.pv (pv_nil rfl) rfl ?_
    refine WL.pv (pv_indexAddrA1Z (j := i % 16) arrT_172 rfl rfl (by omega) (by omega)) rfl ?_
    refine WL.rv (rv_load_blk (k := 0) hS oneT_91 rfl rfl (cells_at _ (by omega))) rfl ?_
    refine WL.pv (pv_assign rfl) rfl ?_
    refine WL.nil ?_
    refine QN.thenW ?_
    refine WC.ret ?_
    refine QN.ret1 rfl rfl ?_
    have hr : ringN r i = upd r (i % 16) (r (i % 16) + (r ((i - 7) % 16) + sig0 (r ((i - 15) % 16)) + sig1 (r ((i - 2) % 16)))) := by unfold ringN; rw [if_pos (by omega)]
    refine ⟨?_, hS.fr, ?_⟩
    · rw [hr]; rfl
    · rw [hr]; exact hS.bk (k := 0) rfl
  · skip
    refine WC.skip ?_
    refine QN.thenW ?_
    refine WC.seq ?_
    refine WC.region ?_
    refine WL.pv (pv_move rfl) rfl ?_
    refine WL.pv (pv_move rfl) rfl ?_
    refine WL.pv (pv_rem rfl rfl (by omega)) rfl ?_
    refine WL.pv (pv_nil rfl) rfl ?_
    refine WL.pv (pv_indexAddrA1Z (j := i % 16) arrT_172 rfl rfl (by omega) (by omega)) rfl ?_
    refine WL.rv (rv_load_blk (k := 0) hS oneT_91 rfl rfl (cells_at _ (by omega))) rfl ?_
    refine WL.pv (pv_assign rfl) rfl ?_
    refine WL.nil ?_
    refine QN.thenW ?_
    refine WC.ret ?_
    refine QN.ret1 rfl rfl ?_
    have hr : ringN r i = r := by unfold ringN; rw [if_neg (by omega)]
    refine ⟨?_, hS.fr, ?_⟩
    · rw [hr]
    · rw [hr]; exact hS.bk (k := 0) rfl


theorem cells_one {n : Nat} {r : Nat → UInt32} : ∀ u ∈ cells n r, u.oneCell' = true := by simp [cells, Value.oneCell']
/-- A digest's cells. -/
def dg (sv : Value) (h : Nat → UInt32) (wv : Value) (n : UInt64) : List Value := sv :: (cells 8 h ++ [wv, w64 n])
theorem dg_len (sv : Value) (h : Nat → UInt32) (wv : Value) (n : UInt64) : (dg sv h wv n).length = 11 := by simp [dg, cells_len]
theorem dg_at {sv : Value} {h : Nat → UInt32} {wv : Value} {n : UInt64} {j : Nat} (hj : j < 8) : (dg sv h wv n)[1 + j]? = some (w32 (h j)) := by
  rw [dg, Nat.add_comm, List.getElem?_cons_succ, List.getElem?_append_left (by rw [cells_len]; exact hj), cells_at h hj]
theorem dg_set {sv : Value} {h : Nat → UInt32} {wv : Value} {n : UInt64} {j : Nat} (hj : j < 8) (v : UInt32) : (dg sv h wv n).set (1 + j) (w32 v) = dg sv (upd h j v) wv n := by
  rw [dg, Nat.add_comm, List.set_cons_succ, List.set_append_left _ _ (by rw [cells_len]; exact hj), cells_set]; rfl
/-- The ring while a block's bytes go in. -/
def fillR (bl : List UInt8) : Nat → Nat → UInt32
  | 0 => fun _ => 0
  | k + 1 => upd (fillR bl k) (k / 4) ((fillR bl k (k / 4)) <<< UInt32.ofNat 8 ||| (bl[k]?.getD 0).toUInt32)
def hAt (H : Nat → UInt32) (i n : Nat) : UInt32 := H ((n + 64 - i) % 8)
def oneOf (H r K : Nat → UInt32) (i : Nat) : UInt32 :=
  hAt H i 7 + (rotl (hAt H i 4) 26 ^^^ rotl (hAt H i 4) 21 ^^^ rotl (hAt H i 4) 7) + (hAt H i 6 ^^^ (hAt H i 4 &&& (hAt H i 5 ^^^ hAt H i 6))) + K i + ringN r i (i % 16)
def twoOf (H : Nat → UInt32) (i : Nat) : UInt32 :=
  (rotl (hAt H i 0) 30 ^^^ rotl (hAt H i 0) 19 ^^^ rotl (hAt H i 0) 10)
def mostOf (H : Nat → UInt32) (i : Nat) : UInt32 := hAt H i 0 &&& hAt H i 1 ||| hAt H i 2 &&& (hAt H i 0 ||| hAt H i 1)
def stepH (H r K : Nat → UInt32) (i : Nat) : Nat → UInt32 :=
  upd (upd H ((67 - i) % 8) (H ((67 - i) % 8) + oneOf H r K i)) ((71 - i) % 8) (oneOf H r K i + twoOf H i + mostOf H i)
def rnd (h r0 K : Nat → UInt32) : Nat → (Nat → UInt32) × (Nat → UInt32)
  | 0 => (h, r0)
  | i + 1 => (stepH (rnd h r0 K i).1 (rnd h r0 K i).2 K i, ringN (rnd h r0 K i).2 i)
def addH (h H : Nat → UInt32) : Nat → Nat → UInt32
  | 0 => h
  | k + 1 => upd (addH h H k) k (addH h H k k + H k)
/-- The eight words behind a block. -/
def fullH (K : Nat → UInt32) (h : Nat → UInt32) (bl : List UInt8) : Nat → UInt32 := addH h (rnd h (fillR bl 64) K 64).1 8
def FullPost (bd : Nat) (sv : Value) (K h : Nat → UInt32) (wv : Value) (n : UInt64) (bl : List UInt8) (w0 : World) (e : Ending) (w : World) : Prop :=
  e = .returned (.tuple #[]) ∧ Fr (fun b => b = bd) w0 w ∧ Bk w bd 132 (dg sv (fullH K h bl) wv n)

set_option maxHeartbeats 1000000 in
set_option maxRecDepth 100000 in
theorem full_c (bd bs c : Nat) (A : Option Addr) (K h : Nat → UInt32) (wv : Value) (n : UInt64) (bl : List UInt8) (w0 : World) (hd : Bk w0 bd 132 (dg (.pointer (some ⟨bs, 0, none⟩)) h wv n))
    (hK : ∀ j u, (cells 64 K)[j]? = some u → w0.cell? ⟨bs, 0 + 8 + j, none⟩ = some u) (hbs : ¬ bs = bd) (hb : Rs w0 (.slice A 64 c) 1 (bs8 bl)) (hl : bl.length = 64) (hA : ∀ a, A = some a → ¬ a.block = bd) :
    Calls Try.prog 101 #[.pointer (some ⟨bd, 0, none⟩), .slice A 64 c] w0 (FullPost bd (.pointer (some ⟨bs, 0, none⟩)) K h wv n bl w0) := by
  obtain ⟨bb, o, rfl, _, hc1, hc2, hcell⟩ := hb.at_ (by rw [bs8_len]; omega)
  have hbb : ¬ bb = bd := hA _ rfl
  refine calls_of_WC (args := [.pointer (some ⟨bd, 0, none⟩), .slice (some ⟨bb, o, none⟩) 64 c]) Try.func101 rfl Try.ntmps101 rfl ?_
  show WC _ _ _ _ [(0, .pointer (some ⟨bd, 0, none⟩)), (1, .slice (some ⟨bb, o, none⟩) 64 c)] _
  have hS : ST w0 (fun b => b = bd) w0 [.blk bd 132 (dg (.pointer (some ⟨bs, 0, none⟩)) h wv n)] := ST.one hd rfl
  refine WC.seq ?_
  refine WC.region ?_
  refine WL.alloc hS zeroT_172 rfl ?_
  intro b4 w hb4 hS
  rw [show (List.replicate 16 (w32 0)) = cells 16 (fillR bl 0) from rfl] at hS
  refine WL.nil ?_
  refine QN.thenW ?_
  refine WC.seq ?_
  refine WC.seq ?_
  refine WC.region ?_
  refine WL.pv (pv_move rfl) rfl ?_
  refine WL.pv (pv_len slS_22 rfl) rfl ?_
  refine WL.pv (pv_move rfl) rfl ?_
  refine WL.nil ?_
  refine QN.thenW ?_
  refine WC.block ?_
  refine WC.loop (α := Nat) (fun k => [(0, .pointer (some ⟨bd, 0, none⟩)), (4, .pointer (some ⟨b4, 0, none⟩)), (16, .slice (some ⟨bb, o, none⟩) 64 c), (17, .int .i64 ((64 : Nat) : Int)), (18, .int .i64 (k : Int))]) (fun k w => k ≤ 64 ∧ ST w0 (fun b => b = bd) w [.blk b4 172 (cells 16 (fillR bl k)), .blk bd 132 (dg (.pointer (some ⟨bs, 0, none⟩)) h wv n)]) (fun k => 64 - k) (0) (Sub.cons rfl (Sub.cons rfl (Sub.cons rfl (Sub.cons rfl (Sub.cons rfl Sub.nil))))) ⟨by omega, hS⟩ ?_
  rintro k w N hN hR
  obtain ⟨hk, hS⟩ := hR
  refine WC.seq ?_
  refine WC.region ?_
  refine WL.pv (pv_lss rfl rfl) rfl ?_
  refine WL.nil ?_
  refine QN.thenW ?_
  refine WC.seq ?_
  refine WC.condD rfl (fun hc19 => ?_) (fun hc19 => ?_)
  · skip
    have hk64 : k < 64 := by omega
    refine WC.skip ?_
    refine QN.thenW ?_
    refine WC.seq ?_
    refine WC.block ?_
    refine WC.seq ?_
    refine WC.region ?_
    refine WL.pv (pv_move rfl) rfl ?_
    refine WL.pv (pv_indexAddrS1 slT_22 rfl rfl rfl (by omega)) rfl ?_
    refine WL.rv (rv_load oneT_5 rfl (hS.fr.cellS (hcell k _ (bs8_at (by omega))) hbb)) rfl ?_
    refine WL.pv (pv_assign rfl) rfl ?_
    refine WL.pv (pv_assign rfl) rfl ?_
    refine WL.nil ?_
    refine QN.thenW ?_
    refine WC.region ?_
    refine WL.pv (pv_move rfl) rfl ?_
    refine WL.pv (pv_quo rfl rfl (by omega)) rfl ?_
    refine WL.pv (pv_move rfl) rfl ?_
    refine WL.pv (pv_quo rfl rfl (by omega)) rfl ?_
    refine WL.pv (pv_indexAddrA1Z (j := k / 4) arrT_172 rfl rfl (by omega) (by omega)) rfl ?_
    refine WL.rv (rv_load_blk (k := 0) hS oneT_91 rfl rfl (cells_at _ (by omega))) rfl ?_
    refine WL.pv (pv_shl32 (c := 8) rfl rfl (by omega)) rfl ?_
    refine WL.pv (pv_move rfl) rfl ?_
    refine WL.pv (pv_conv someT_5 Try.underlying91 rfl (cv_8_32 _)) rfl ?_
    refine WL.pv (pv_or32 rfl rfl) rfl ?_
    refine WL.pv (pv_indexAddrA1Z (j := k / 4) arrT_172 rfl rfl (by omega) (by omega)) rfl ?_
    refine WL.store (k := 0) hS sizeT_91 rfl rfl rfl rfl (by rw [cells_len]; omega) ?_
    intro w hS
    try simp only [List.set] at hS
    rw [cells_set, show upd (fillR bl k) (k / 4) ((fillR bl k (k / 4)) <<< UInt32.ofNat 8 ||| (bl[k]).toUInt32) = fillR bl (k + 1) from by rw [fillR, List.getElem?_eq_getElem (by omega)]; rfl] at hS
    refine WL.nil ?_
    refine QN.blockN ?_
    refine QN.thenW ?_
    refine WC.region ?_
    refine WL.pv (pv_add rfl rfl (by omega)) rfl ?_
    refine WL.pv (pv_move rfl) rfl ?_
    refine WL.nil ?_
    refine QN.roundE ?_
    refine ⟨(k + 1), (Sub.cons rfl (Sub.cons rfl (Sub.cons rfl (Sub.cons rfl (Sub.cons rfl Sub.nil))))), ⟨by omega, hS⟩, ?_⟩
    first | omega | (dsimp only; omega)
  · skip
    obtain rfl : k = 64 := by omega
    refine WC.exit ?_
    refine QN.thenX ?_
    refine QN.thenX ?_
    refine QN.blockX ?_
    refine QN.thenW ?_
    refine WC.seq ?_
    refine WC.region ?_
    refine WL.pv (pv_move rfl) rfl ?_
    refine WL.pv (pv_nil rfl) rfl ?_
    refine WL.pv (pv_fieldAddrZ fldT_132_1 rfl) rfl ?_
    refine WL.rv (rv_load_part (k := 1) (m := 8) hS rfl rfl aggT_127 (by rw [dg_len]; omega)) rfl ?_
    refine WL.alloc hS zeroT_127 rfl ?_
    intro b7 w hb7 hS
    refine WL.storeAll (k := 0) (vs := cells 8 h) hS (by rw [sizeT_127, cells_len]) rfl rfl rfl cells_one (by simp [cells_len]) ?_
    intro w hS
    try simp only [List.set] at hS
    refine WL.nil ?_
    refine QN.thenW ?_
    refine WC.seq ?_
    refine WC.seq ?_
    refine WC.region ?_
    refine WL.pv (pv_move rfl) rfl ?_
    refine WL.pv (pv_nil rfl) rfl ?_
    refine WL.pv (pv_fieldAddrZ fldT_132_0 rfl) rfl ?_
    refine WL.rv (rv_load_blk (k := 2) hS oneT_124 rfl rfl rfl) rfl ?_
    refine WL.pv (pv_nil rfl) rfl ?_
    refine WL.pv (pv_fieldAddr (o := 0) fldT_130_1 rfl) rfl ?_
    refine WL.rv (rv_loadA (cs := cells 64 K) (by rw [aggT_128, cells_len]) rfl (fun j u hu => hS.fr.cellS (hK j u hu) hbs)) rfl ?_
    refine WL.pv (pv_move rfl) rfl ?_
    refine WL.nil ?_
    refine QN.thenW ?_
    refine WC.block ?_
    refine WC.loop (α := Nat) (fun i => [(0, .pointer (some ⟨bd, 0, none⟩)), (4, .pointer (some ⟨b4, 0, none⟩)), (7, .pointer (some ⟨b7, 0, none⟩)), (45, .agg (cells 64 K).toArray), (46, .int .i64 (i : Int))]) (fun i w => i ≤ 64 ∧ ST w0 (fun b => b = bd) w [.blk b7 127 (cells 8 (rnd h (fillR bl 64) K i).1), .blk b4 172 (cells 16 (rnd h (fillR bl 64) K i).2), .blk bd 132 (dg (.pointer (some ⟨bs, 0, none⟩)) h wv n)]) (fun i => 64 - i) (0) (Sub.cons rfl (Sub.cons rfl (Sub.cons rfl (Sub.cons rfl (Sub.cons rfl Sub.nil))))) ⟨by omega, hS⟩ ?_
    rintro i w N hN hR
    obtain ⟨hk, hS⟩ := hR
    refine WC.seq ?_
    refine WC.region ?_
    refine WL.pv (pv_lss rfl rfl) rfl ?_
    refine WL.nil ?_
    refine QN.thenW ?_
    refine WC.seq ?_
    refine WC.condD rfl (fun hc47 => ?_) (fun hc47 => ?_)
    · skip
      have hi : i < 64 := by omega
      generalize hH : rnd h (fillR bl 64) K i = HR at hS
      obtain ⟨H, r⟩ := HR
      refine WC.skip ?_
      refine QN.thenW ?_
      refine WC.seq ?_
      refine WC.block ?_
      refine WC.seq ?_
      refine WC.region ?_
      refine WL.pv (pv_move rfl) rfl ?_
      refine WL.pv (pv_index arrT_128 (fun e he => by rw [Try.underlying128] at he; injection he with he; injection he with _ he; subst he; exact oneT_91) rfl rfl rfl (by omega) (cells_at K (by omega))) rfl ?_
      refine WL.alloc hS zeroT_3 rfl ?_
      intro b8 w hb8 hS
      refine WL.store (k := 0) hS sizeT_3 rfl rfl rfl rfl (by simp) ?_
      intro w hS
      try simp only [List.set] at hS
      refine WL.pv (pv_assign rfl) rfl ?_
      refine WL.nil ?_
      refine QN.thenW ?_
      refine WC.seq ?_
      refine WC.region ?_
      refine WL.pv (pv_func (cap := [.tmp 7, .tmp 8]) rfl) rfl ?_
      refine WL.pv (pv_assign rfl) rfl ?_
      refine WL.nil ?_
      refine QN.thenW ?_
      refine WC.seq ?_
      refine WC.region ?_
      refine WL.pv (pv_move rfl) rfl ?_
      refine WL.callv (args := [.const (.int .i64 4)]) rfl cf_113 rfl rfl (at_c b7 b8 4 i _ _ (by omega) hi (fun j hj => hS.cell (k := 1) rfl (cells_at _ hj)) (hS.cell (k := 0) rfl rfl)) ?_
      rintro _ _ ⟨rfl, rfl⟩
      refine ⟨_, rfl, ?_⟩
      refine WL.call (args := [.tmp 52, .const (.int .i64 26)]) cf_103 rfl rfl (rotl32_c _ 26 _ (by omega)) ?_
      rintro _ _ ⟨rfl, rfl⟩
      refine ⟨_, rfl, ?_⟩
      refine WL.pv (pv_move rfl) rfl ?_
      refine WL.callv (args := [.const (.int .i64 4)]) rfl cf_113 rfl rfl (at_c b7 b8 4 i _ _ (by omega) hi (fun j hj => hS.cell (k := 1) rfl (cells_at _ hj)) (hS.cell (k := 0) rfl rfl)) ?_
      rintro _ _ ⟨rfl, rfl⟩
      refine ⟨_, rfl, ?_⟩
      refine WL.call (args := [.tmp 55, .const (.int .i64 21)]) cf_103 rfl rfl (rotl32_c _ 21 _ (by omega)) ?_
      rintro _ _ ⟨rfl, rfl⟩
      refine ⟨_, rfl, ?_⟩
      refine WL.pv (pv_xor32 rfl rfl) rfl ?_
      refine WL.pv (pv_move rfl) rfl ?_
      refine WL.callv (args := [.const (.int .i64 4)]) rfl cf_113 rfl rfl (at_c b7 b8 4 i _ _ (by omega) hi (fun j hj => hS.cell (k := 1) rfl (cells_at _ hj)) (hS.cell (k := 0) rfl rfl)) ?_
      rintro _ _ ⟨rfl, rfl⟩
      refine ⟨_, rfl, ?_⟩
      refine WL.call (args := [.tmp 59, .const (.int .i64 7)]) cf_103 rfl rfl (rotl32_c _ 7 _ (by omega)) ?_
      rintro _ _ ⟨rfl, rfl⟩
      refine ⟨_, rfl, ?_⟩
      refine WL.pv (pv_xor32 rfl rfl) rfl ?_
      refine WL.pv (pv_assign rfl) rfl ?_
      refine WL.nil ?_
      refine QN.thenW ?_
      refine WC.seq ?_
      refine WC.region ?_
      refine WL.pv (pv_move rfl) rfl ?_
      refine WL.callv (args := [.const (.int .i64 6)]) rfl cf_113 rfl rfl (at_c b7 b8 6 i _ _ (by omega) hi (fun j hj => hS.cell (k := 1) rfl (cells_at _ hj)) (hS.cell (k := 0) rfl rfl)) ?_
      rintro _ _ ⟨rfl, rfl⟩
      refine ⟨_, rfl, ?_⟩
      refine WL.pv (pv_move rfl) rfl ?_
      refine WL.callv (args := [.const (.int .i64 4)]) rfl cf_113 rfl rfl (at_c b7 b8 4 i _ _ (by omega) hi (fun j hj => hS.cell (k := 1) rfl (cells_at _ hj)) (hS.cell (k := 0) rfl rfl)) ?_
      rintro _ _ ⟨rfl, rfl⟩
      refine ⟨_, rfl, ?_⟩
      refine WL.pv (pv_move rfl) rfl ?_
      refine WL.callv (args := [.const (.int .i64 5)]) rfl cf_113 rfl rfl (at_c b7 b8 5 i _ _ (by omega) hi (fun j hj => hS.cell (k := 1) rfl (cells_at _ hj)) (hS.cell (k := 0) rfl rfl)) ?_
      rintro _ _ ⟨rfl, rfl⟩
      refine ⟨_, rfl, ?_⟩
      refine WL.pv (pv_move rfl) rfl ?_
      refine WL.callv (args := [.const (.int .i64 6)]) rfl cf_113 rfl rfl (at_c b7 b8 6 i _ _ (by omega) hi (fun j hj => hS.cell (k := 1) rfl (cells_at _ hj)) (hS.cell (k := 0) rfl rfl)) ?_
      rintro _ _ ⟨rfl, rfl⟩
      refine ⟨_, rfl, ?_⟩
      refine WL.pv (pv_xor32 rfl rfl) rfl ?_
      refine WL.pv (pv_and32 rfl rfl) rfl ?_
      refine WL.pv (pv_xor32 rfl rfl) rfl ?_
      refine WL.pv (pv_assign rfl) rfl ?_
      refine WL.nil ?_
      refine QN.thenW ?_
      refine WC.seq ?_
      refine WC.draw (S := fun w => w.cell? ⟨b8, 0, none⟩ = some (.int .i64 (i : Int))) (fuel := 12) (listed := #[false, false, false, false, false, false, false, false, false, false, false, false]) mixedO rfl rfl ?_
      have hS := hS.no (Fr.drew _)
      refine WH.take (listed' := #[true, false, false, false, false, false, false, false, false, false, false, false]) 0 rfl (by kernel_rfl) (by kernel_rfl) (by kernel_rfl) (fun _ _ _ h => h) rfl (fun w _ => PV.rv (pv_move rfl) w) (hS.cell (k := 0) rfl rfl) rfl ?_
      refine WH.take (listed' := #[true, false, true, false, false, false, false, false, false, false, false, false]) 2 rfl (by kernel_rfl) (by kernel_rfl) (by kernel_rfl) (fun _ _ _ h => h) rfl (fun w _ => PV.rv (pv_move rfl) w) (hS.cell (k := 0) rfl rfl) rfl ?_
      refine WH.take (listed' := #[true, false, true, false, true, false, false, false, false, false, false, false]) 4 rfl (by kernel_rfl) (by kernel_rfl) (by kernel_rfl) (fun _ _ _ h => h) rfl (fun w _ => PV.rv (pv_move rfl) w) (hS.cell (k := 0) rfl rfl) rfl ?_
      refine WH.take (listed' := #[true, false, true, false, true, false, true, false, false, false, false, false]) 6 rfl (by kernel_rfl) (by kernel_rfl) (by kernel_rfl) (fun _ _ _ h => h) rfl (fun w _ => PV.rv (pv_move rfl) w) (hS.cell (k := 0) rfl rfl) rfl ?_
      refine WH.take (listed' := #[true, false, true, false, true, false, true, false, true, false, false, false]) 8 rfl (by kernel_rfl) (by kernel_rfl) (by kernel_rfl) (fun _ _ _ h => h) rfl (fun w hS => rv_load oneT_3 rfl hS) (hS.cell (k := 0) rfl rfl) rfl ?_
      refine WH.one (listed' := #[true, true, true, false, true, false, true, false, true, false, false, false]) 1 rfl (by kernel_rfl) rfl ?_
      refine WL.callv (args := [.const (.int .i64 7)]) rfl cf_113 rfl rfl (at_c b7 b8 7 i _ _ (by omega) hi (fun j hj => hS.cell (k := 1) rfl (cells_at _ hj)) (hS.cell (k := 0) rfl rfl)) ?_
      rintro _ _ ⟨rfl, rfl⟩
      refine ⟨_, rfl, ?_⟩
      refine WL.nil ?_
      refine QN.held (hS.cell (k := 0) rfl rfl) ?_
      refine WH.take (listed' := #[true, true, true, true, true, false, true, false, true, false, false, false]) 3 rfl (by kernel_rfl) (by kernel_rfl) (by kernel_rfl) (fun _ _ _ h => h) rfl (fun w _ => PV.rv (pv_add32 rfl rfl) w) (hS.cell (k := 0) rfl rfl) rfl ?_
      refine WH.take (listed' := #[true, true, true, true, true, true, true, false, true, false, false, false]) 5 rfl (by kernel_rfl) (by kernel_rfl) (by kernel_rfl) (fun _ _ _ h => h) rfl (fun w _ => PV.rv (pv_add32 rfl rfl) w) (hS.cell (k := 0) rfl rfl) rfl ?_
      refine WH.take (listed' := #[true, true, true, true, true, true, true, true, true, false, false, false]) 7 rfl (by kernel_rfl) (by kernel_rfl) (by kernel_rfl) (fun _ _ _ h => h) rfl (fun w _ => PV.rv (pv_add32 rfl rfl) w) (hS.cell (k := 0) rfl rfl) rfl ?_
      refine WH.one (listed' := #[true, true, true, true, true, true, true, true, true, true, false, false]) 9 rfl (by kernel_rfl) rfl ?_
      refine WL.call (args := [.tmp 4, .tmp 81]) cf_114 rfl rfl (ring_c b4 i r _ hi (hS.bk (k := 2) rfl)) ?_
      rintro _ w ⟨rfl, hF, hB⟩
      refine ⟨_, rfl, ?_⟩
      replace hS := hS.updB (k := 2) rfl hF hB
      simp only [List.set] at hS
      refine WL.nil ?_
      refine QN.held (hS.cell (k := 0) rfl rfl) ?_
      refine WH.take (listed' := #[true, true, true, true, true, true, true, true, true, true, true, false]) 10 rfl (by kernel_rfl) (by kernel_rfl) (by kernel_rfl) (fun _ _ _ h => h) rfl (fun w _ => PV.rv (pv_add32 rfl rfl) w) (hS.cell (k := 0) rfl rfl) rfl ?_
      refine WH.take (listed' := #[true, true, true, true, true, true, true, true, true, true, true, true]) 11 rfl (by kernel_rfl) (by kernel_rfl) (by kernel_rfl) (fun _ _ _ h => h) rfl (fun w _ => PV.rv (pv_assign rfl) w) (hS.cell (k := 0) rfl rfl) rfl ?_
      refine WH.done (by kernel_rfl) ?_
      refine QN.thenW ?_
      refine WC.seq ?_
      refine WC.region ?_
      refine WL.pv (pv_move rfl) rfl ?_
      refine WL.callv (args := [.const (.int .i64 0)]) rfl cf_113 rfl rfl (at_c b7 b8 0 i _ _ (by omega) hi (fun j hj => hS.cell (k := 1) rfl (cells_at _ hj)) (hS.cell (k := 0) rfl rfl)) ?_
      rintro _ _ ⟨rfl, rfl⟩
      refine ⟨_, rfl, ?_⟩
      refine WL.call (args := [.tmp 85, .const (.int .i64 30)]) cf_103 rfl rfl (rotl32_c _ 30 _ (by omega)) ?_
      rintro _ _ ⟨rfl, rfl⟩
      refine ⟨_, rfl, ?_⟩
      refine WL.pv (pv_move rfl) rfl ?_
      refine WL.callv (args := [.const (.int .i64 0)]) rfl cf_113 rfl rfl (at_c b7 b8 0 i _ _ (by omega) hi (fun j hj => hS.cell (k := 1) rfl (cells_at _ hj)) (hS.cell (k := 0) rfl rfl)) ?_
      rintro _ _ ⟨rfl, rfl⟩
      refine ⟨_, rfl, ?_⟩
      refine WL.call (args := [.tmp 88, .const (.int .i64 19)]) cf_103 rfl rfl (rotl32_c _ 19 _ (by omega)) ?_
      rintro _ _ ⟨rfl, rfl⟩
      refine ⟨_, rfl, ?_⟩
      refine WL.pv (pv_xor32 rfl rfl) rfl ?_
      refine WL.pv (pv_move rfl) rfl ?_
      refine WL.callv (args := [.const (.int .i64 0)]) rfl cf_113 rfl rfl (at_c b7 b8 0 i _ _ (by omega) hi (fun j hj => hS.cell (k := 1) rfl (cells_at _ hj)) (hS.cell (k := 0) rfl rfl)) ?_
      rintro _ _ ⟨rfl, rfl⟩
      refine ⟨_, rfl, ?_⟩
      refine WL.call (args := [.tmp 92, .const (.int .i64 10)]) cf_103 rfl rfl (rotl32_c _ 10 _ (by omega)) ?_
      rintro _ _ ⟨rfl, rfl⟩
      refine ⟨_, rfl, ?_⟩
      refine WL.pv (pv_xor32 rfl rfl) rfl ?_
      refine WL.pv (pv_assign rfl) rfl ?_
      refine WL.nil ?_
      refine QN.thenW ?_
      refine WC.seq ?_
      refine WC.region ?_
      refine WL.pv (pv_move rfl) rfl ?_
      refine WL.callv (args := [.const (.int .i64 0)]) rfl cf_113 rfl rfl (at_c b7 b8 0 i _ _ (by omega) hi (fun j hj => hS.cell (k := 1) rfl (cells_at _ hj)) (hS.cell (k := 0) rfl rfl)) ?_
      rintro _ _ ⟨rfl, rfl⟩
      refine ⟨_, rfl, ?_⟩
      refine WL.pv (pv_move rfl) rfl ?_
      refine WL.callv (args := [.const (.int .i64 1)]) rfl cf_113 rfl rfl (at_c b7 b8 1 i _ _ (by omega) hi (fun j hj => hS.cell (k := 1) rfl (cells_at _ hj)) (hS.cell (k := 0) rfl rfl)) ?_
      rintro _ _ ⟨rfl, rfl⟩
      refine ⟨_, rfl, ?_⟩
      refine WL.pv (pv_and32 rfl rfl) rfl ?_
      refine WL.pv (pv_move rfl) rfl ?_
      refine WL.callv (args := [.const (.int .i64 2)]) rfl cf_113 rfl rfl (at_c b7 b8 2 i _ _ (by omega) hi (fun j hj => hS.cell (k := 1) rfl (cells_at _ hj)) (hS.cell (k := 0) rfl rfl)) ?_
      rintro _ _ ⟨rfl, rfl⟩
      refine ⟨_, rfl, ?_⟩
      refine WL.pv (pv_move rfl) rfl ?_
      refine WL.callv (args := [.const (.int .i64 0)]) rfl cf_113 rfl rfl (at_c b7 b8 0 i _ _ (by omega) hi (fun j hj => hS.cell (k := 1) rfl (cells_at _ hj)) (hS.cell (k := 0) rfl rfl)) ?_
      rintro _ _ ⟨rfl, rfl⟩
      refine ⟨_, rfl, ?_⟩
      refine WL.pv (pv_move rfl) rfl ?_
      refine WL.callv (args := [.const (.int .i64 1)]) rfl cf_113 rfl rfl (at_c b7 b8 1 i _ _ (by omega) hi (fun j hj => hS.cell (k := 1) rfl (cells_at _ hj)) (hS.cell (k := 0) rfl rfl)) ?_
      rintro _ _ ⟨rfl, rfl⟩
      refine ⟨_, rfl, ?_⟩
      refine WL.pv (pv_or32 rfl rfl) rfl ?_
      refine WL.pv (pv_and32 rfl rfl) rfl ?_
      refine WL.pv (pv_or32 rfl rfl) rfl ?_
      refine WL.pv (pv_assign rfl) rfl ?_
      refine WL.nil ?_
      refine QN.thenW ?_
      refine WC.seq ?_
      refine WC.region ?_
      refine WL.rv (rv_load_blk (k := 0) hS oneT_3 rfl rfl rfl) rfl ?_
      refine WL.pv (pv_sub rfl rfl (by omega)) rfl ?_
      refine WL.pv (pv_rem rfl rfl (by omega)) rfl ?_
      refine WL.pv (pv_indexAddrA1Z (j := (67 - i) % 8) arrT_127 rfl rfl (by omega) (by omega)) rfl ?_
      refine WL.rv (rv_load_blk (k := 1) hS oneT_91 rfl rfl (cells_at _ (by omega))) rfl ?_
      refine WL.pv (pv_move rfl) rfl ?_
      refine WL.pv (pv_add32 rfl rfl) rfl ?_
      refine WL.pv (pv_indexAddrA1Z (j := (67 - i) % 8) arrT_127 rfl rfl (by omega) (by omega)) rfl ?_
      refine WL.store (k := 1) hS sizeT_91 rfl rfl rfl rfl (by rw [cells_len]; omega) ?_
      intro w hS
      try simp only [List.set] at hS
      rw [cells_set] at hS
      refine WL.nil ?_
      refine QN.thenW ?_
      refine WC.region ?_
      refine WL.rv (rv_load_blk (k := 0) hS oneT_3 rfl rfl rfl) rfl ?_
      refine WL.pv (pv_sub rfl rfl (by omega)) rfl ?_
      refine WL.pv (pv_rem rfl rfl (by omega)) rfl ?_
      refine WL.pv (pv_move rfl) rfl ?_
      refine WL.pv (pv_move rfl) rfl ?_
      refine WL.pv (pv_add32 rfl rfl) rfl ?_
      refine WL.pv (pv_move rfl) rfl ?_
      refine WL.pv (pv_add32 rfl rfl) rfl ?_
      refine WL.pv (pv_indexAddrA1Z (j := (71 - i) % 8) arrT_127 rfl rfl (by omega) (by omega)) rfl ?_
      refine WL.store (k := 1) hS sizeT_91 rfl rfl rfl rfl (by rw [cells_len]; omega) ?_
      intro w hS
      try simp only [List.set] at hS
      rw [cells_set] at hS
      have e1 : (rnd h (fillR bl 64) K (i + 1)).1 = stepH H r K i := by rw [rnd, hH]
      have e2 : (rnd h (fillR bl 64) K (i + 1)).2 = ringN r i := by rw [rnd, hH]
      change ST w0 _ w (_ :: Ent.blk b7 127 (cells 8 (stepH H r K i)) :: _) at hS
      rw [← e1, ← e2] at hS
      refine WL.nil ?_
      refine QN.blockN ?_
      refine QN.thenW ?_
      refine WC.region ?_
      refine WL.pv (pv_add rfl rfl (by omega)) rfl ?_
      refine WL.pv (pv_move rfl) rfl ?_
      refine WL.nil ?_
      replace hS := hS.drop
      refine QN.roundE ?_
      refine ⟨(i + 1), (Sub.cons rfl (Sub.cons rfl (Sub.cons rfl (Sub.cons rfl (Sub.cons rfl Sub.nil))))), ⟨by omega, hS⟩, ?_⟩
      first | omega | (dsimp only; omega)
    · skip
      obtain rfl : i = 64 := by omega
      refine WC.exit ?_
      refine QN.thenX ?_
      refine QN.thenX ?_
      refine QN.blockX ?_
      refine QN.thenW ?_
      refine WC.seq ?_
      refine WC.region ?_
      refine WL.pv (pv_move rfl) rfl ?_
      refine WL.nil ?_
      refine QN.thenW ?_
      refine WC.block ?_
      refine WC.loop (α := Nat) (fun k => [(0, .pointer (some ⟨bd, 0, none⟩)), (7, .pointer (some ⟨b7, 0, none⟩)), (127, .int .i64 (k : Int))]) (fun k w => k ≤ 8 ∧ ST w0 (fun b => b = bd) w [.blk b7 127 (cells 8 (rnd h (fillR bl 64) K 64).1), .blk bd 132 (dg (.pointer (some ⟨bs, 0, none⟩)) (addH h (rnd h (fillR bl 64) K 64).1 k) wv n)]) (fun k => 8 - k) (0) (Sub.cons rfl (Sub.cons rfl (Sub.cons rfl Sub.nil))) ⟨by omega, hS.erase 1⟩ ?_
      rintro k w N hN hR
      obtain ⟨hk, hS⟩ := hR
      refine WC.seq ?_
      refine WC.region ?_
      refine WL.pv (pv_lss rfl rfl) rfl ?_
      refine WL.nil ?_
      refine QN.thenW ?_
      refine WC.seq ?_
      refine WC.condD rfl (fun hc128 => ?_) (fun hc128 => ?_)
      · skip
        have hk8 : k < 8 := by omega
        refine WC.skip ?_
        refine QN.thenW ?_
        refine WC.seq ?_
        refine WC.block ?_
        refine WC.seq ?_
        refine WC.region ?_
        refine WL.pv (pv_move rfl) rfl ?_
        refine WL.pv (pv_assign rfl) rfl ?_
        refine WL.nil ?_
        refine QN.thenW ?_
        refine WC.stillTail 13 mixedO (by kernel_rfl) ?_
        have hS := hS.no (Fr.drew _)
        refine WS.pv (pv_move rfl) rfl ?_
        refine WS.pv (pv_move rfl) rfl ?_
        refine WS.pv (pv_nil rfl) rfl ?_
        refine WS.pv (pv_fieldAddrZ fldT_132_1 rfl) rfl ?_
        refine WS.pv (pv_indexAddrA1 arrT_127 rfl rfl rfl (by omega)) rfl ?_
        refine WS.rv (rv_load_blk (k := 1) hS oneT_91 rfl rfl (dg_at (by omega))) rfl ?_
        refine WS.pv (pv_move rfl) rfl ?_
        refine WS.pv (pv_indexAddrA1Z arrT_127 rfl rfl rfl (by omega)) rfl ?_
        refine WS.rv (rv_load_blk (k := 0) hS oneT_91 rfl rfl (cells_at _ (by omega))) rfl ?_
        refine WS.pv (pv_add32 rfl rfl) rfl ?_
        refine WS.pv (pv_nil rfl) rfl ?_
        refine WS.pv (pv_fieldAddrZ fldT_132_1 rfl) rfl ?_
        refine WS.pv (pv_indexAddrA1 arrT_127 rfl rfl rfl (by omega)) rfl ?_
        refine WS.tail ?_
        refine WL.store (k := 1) hS sizeT_91 rfl rfl rfl rfl (by rw [dg_len]; omega) ?_
        intro w hS
        try simp only [List.set] at hS
        rw [dg_set (by omega)] at hS
        refine WL.nil ?_
        refine QN.blockN ?_
        refine QN.thenW ?_
        refine WC.region ?_
        refine WL.pv (pv_add rfl rfl (by omega)) rfl ?_
        refine WL.pv (pv_move rfl) rfl ?_
        refine WL.nil ?_
        refine QN.roundE ?_
        refine ⟨(k + 1), (Sub.cons rfl (Sub.cons rfl (Sub.cons rfl Sub.nil))), ⟨by omega, hS⟩, ?_⟩
        first | omega | (dsimp only; omega)
      · skip
        obtain rfl : k = 8 := by omega
        refine WC.exit ?_
        refine QN.thenX ?_
        refine QN.thenX ?_
        refine QN.blockX ?_
        refine QN.end0 rfl ?_
        exact ⟨rfl, hS.fr, hS.bk (k := 1) rfl⟩

end Go.Proofs.Ytjcebkhhgdgohaa
