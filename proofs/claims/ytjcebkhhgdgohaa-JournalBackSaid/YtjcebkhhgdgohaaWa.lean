/- What the functions of the digest compute. -/
import Derived.Test.YtjcebkhhgdgohaaProg
import Derived.KernelRfl
import Derived.Test.YtjcebkhhgdgohaaEc
namespace Go.Proofs.Ytjcebkhhgdgohaa
open Go Go.RowKit Go.Eng
theorem aggT_127 : aggT Try.prog 127 = some 8 := by kernel_rfl
theorem aggT_128 : aggT Try.prog 128 = some 64 := by kernel_rfl
theorem arrT_127 : arrT Try.prog 127 = some (8, 1) := by kernel_rfl
theorem arrT_128 : arrT Try.prog 128 = some (64, 1) := by kernel_rfl
theorem arrT_172 : arrT Try.prog 172 = some (16, 1) := by kernel_rfl
theorem cf_103 : callable Try.prog 103 = true := by kernel_rfl
theorem cf_113 : callable Try.prog 113 = true := by kernel_rfl
theorem cf_114 : callable Try.prog 114 = true := by kernel_rfl
theorem fldT_130_1 : fldT Try.prog 130 1 = some 8 := by kernel_rfl
theorem fldT_132_0 : fldT Try.prog 132 0 = some 0 := by kernel_rfl
theorem fldT_132_1 : fldT Try.prog 132 1 = some 1 := by kernel_rfl
theorem mixedO : Try.prog.follows .mixedOrders = true := by kernel_rfl
theorem oneT_124 : oneT Try.prog 124 = true := by kernel_rfl
theorem oneT_3 : oneT Try.prog 3 = true := by kernel_rfl
theorem oneT_5 : oneT Try.prog 5 = true := by kernel_rfl
theorem oneT_91 : oneT Try.prog 91 = true := by kernel_rfl
theorem sizeT_127 : sizeT Try.prog 127 = some 8 := by kernel_rfl
theorem sizeT_3 : sizeT Try.prog 3 = some 1 := by kernel_rfl
theorem sizeT_91 : sizeT Try.prog 91 = some 1 := by kernel_rfl
theorem slS_22 : (slT Try.prog 22).isSome = true := by kernel_rfl
theorem slT_22 : slT Try.prog 22 = some (5, 1, 1) := by kernel_rfl
theorem someT_3 : (Try.prog.underlying 3).isSome = true := by kernel_rfl
theorem someT_5 : (Try.prog.underlying 5).isSome = true := by kernel_rfl
theorem zeroT_127 : zeroT Try.prog 127 = some (List.replicate 8 (w32 0)) := by kernel_rfl
theorem zeroT_172 : zeroT Try.prog 172 = some (List.replicate 16 (w32 0)) := by kernel_rfl
theorem zeroT_3 : zeroT Try.prog 3 = some ([.int .i64 0]) := by kernel_rfl
def rotl (x : UInt32) (k : Nat) : UInt32 := (x <<< (UInt32.ofNat (k % 32))) ||| shr32 x (32 - k % 32)
theorem and31 : ∀ k, k ≤ 64 → (UInt64.ofNat k &&& 31).toNat = k % 32 := by decide
theorem sub31 : ∀ k, k ≤ 64 → (32 - (UInt64.ofNat k &&& 31)).toNat = 32 - k % 32 := by decide
def rotl64 (x : UInt64) (k : Nat) : UInt64 := (x <<< (UInt64.ofNat (k % 64))) ||| shr64 x (64 - k % 64)
theorem and63 : ∀ k, k ≤ 64 → (UInt64.ofNat k &&& 63).toNat = k % 64 := by decide
theorem sub63 : ∀ k, k ≤ 64 → (64 - (UInt64.ofNat k &&& 63)).toNat = 64 - k % 64 := by decide
set_option maxRecDepth 100000 in
theorem rotl32_c (x : UInt32) (k : Nat) (w0 : World) (hk : k ≤ 64) : Calls Try.prog 103 #[w32 x, .int .i64 (k : Int)] w0 fun e w => e = .returned (w32 (rotl x k)) ∧ w0 = w := by
  refine calls_of_WC (args := [w32 x, .int .i64 (k : Int)]) Try.func103 rfl Try.ntmps103 rfl ?_
  show WC _ _ _ _ [(0, w32 x), (1, .int .i64 (k : Int))] _
  have hS := ST.start w0 No
  refine WC.seq ?_
  refine WC.region ?_
  refine WL.pv (pv_assign rfl) rfl ?_
  refine WL.nil ?_
  refine QN.thenW ?_
  refine WC.seq ?_
  refine WC.region ?_
  refine WL.pv (pv_move rfl) rfl ?_
  refine WL.pv (pv_conv someT_3 Try.underlying164 rfl (cv_i_64 _)) rfl ?_
  refine WL.pv (pv_and64 (b := 31) rfl rfl) rfl ?_
  refine WL.pv (pv_assign rfl) rfl ?_
  refine WL.nil ?_
  refine QN.thenW ?_
  refine WC.seq ?_
  refine WC.region ?_
  refine WL.pv (pv_move rfl) rfl ?_
  refine WL.pv (pv_move rfl) rfl ?_
  refine WL.pv (pv_shl32 rfl rfl (by rw [and31 k hk]; omega)) rfl ?_
  refine WL.pv (pv_move rfl) rfl ?_
  refine WL.pv (pv_move rfl) rfl ?_
  refine WL.pv (pv_sub64 (a := 32) rfl rfl) rfl ?_
  refine WL.pv (pv_shr32g rfl rfl) rfl ?_
  refine WL.pv (pv_or32 rfl rfl) rfl ?_
  refine WL.pv (pv_assign rfl) rfl ?_
  refine WL.nil ?_
  refine QN.thenW ?_
  refine WC.ret ?_
  refine QN.ret1 rfl rfl ?_
  exact ⟨by rw [rotl, and31 k hk, sub31 k hk], rfl⟩

set_option maxRecDepth 100000 in
theorem rotl64_c (x : UInt64) (k : Nat) (w0 : World) (hk : k ≤ 64) : Calls Try.prog 102 #[w64 x, .int .i64 (k : Int)] w0 fun e w => e = .returned (w64 (rotl64 x k)) ∧ w0 = w := by
  refine calls_of_WC (args := [w64 x, .int .i64 (k : Int)]) Try.func102 rfl Try.ntmps102 rfl ?_
  show WC _ _ _ _ [(0, w64 x), (1, .int .i64 (k : Int))] _
  have hS := ST.start w0 No
  refine WC.seq ?_
  refine WC.region ?_
  refine WL.pv (pv_assign rfl) rfl ?_
  refine WL.nil ?_
  refine QN.thenW ?_
  refine WC.seq ?_
  refine WC.region ?_
  refine WL.pv (pv_move rfl) rfl ?_
  refine WL.pv (pv_conv someT_3 Try.underlying164 rfl (cv_i_64 _)) rfl ?_
  refine WL.pv (pv_and64 (b := 63) rfl rfl) rfl ?_
  refine WL.pv (pv_assign rfl) rfl ?_
  refine WL.nil ?_
  refine QN.thenW ?_
  refine WC.seq ?_
  refine WC.region ?_
  refine WL.pv (pv_move rfl) rfl ?_
  refine WL.pv (pv_move rfl) rfl ?_
  refine WL.pv (pv_shl64 rfl rfl (by rw [and63 k hk]; omega)) rfl ?_
  refine WL.pv (pv_move rfl) rfl ?_
  refine WL.pv (pv_move rfl) rfl ?_
  refine WL.pv (pv_sub64 (a := 64) rfl rfl) rfl ?_
  refine WL.pv (pv_shr64g rfl rfl) rfl ?_
  refine WL.pv (pv_or64 rfl rfl) rfl ?_
  refine WL.pv (pv_assign rfl) rfl ?_
  refine WL.nil ?_
  refine QN.thenW ?_
  refine WC.ret ?_
  refine QN.ret1 rfl rfl ?_
  exact ⟨by rw [rotl64, and63 k hk, sub63 k hk], rfl⟩

set_option maxRecDepth 100000 in
theorem at_c (bh bi n i : Nat) (h : Nat → UInt32) (w0 : World) (hn : n < 8) (hi : i < 64) (hh : ∀ j, j < 8 → w0.cell? ⟨bh, j, none⟩ = some (w32 (h j))) (hii : w0.cell? ⟨bi, 0, none⟩ = some (.int .i64 (i : Int))) :
    Calls Try.prog 113 #[.int .i64 (n : Int), .pointer (some ⟨bh, 0, none⟩), .pointer (some ⟨bi, 0, none⟩)] w0 fun e w => e = .returned (w32 (h ((n + 64 - i) % 8))) ∧ w0 = w := by
  refine calls_of_WC (args := [.int .i64 (n : Int), .pointer (some ⟨bh, 0, none⟩), .pointer (some ⟨bi, 0, none⟩)]) Try.func113 rfl Try.ntmps113 rfl ?_
  show WC _ _ _ _ [(0, .int .i64 (n : Int)), (1, .pointer (some ⟨bh, 0, none⟩)), (2, .pointer (some ⟨bi, 0, none⟩))] _
  have hS := ST.start w0 No
  refine WC.seq ?_
  refine WC.region ?_
  refine WL.pv (pv_assign rfl) rfl ?_
  refine WL.nil ?_
  refine QN.thenW ?_
  refine WC.seq ?_
  refine WC.region ?_
  refine WL.pv (pv_move rfl) rfl ?_
  refine WL.pv (pv_add rfl rfl (by omega)) rfl ?_
  refine WL.rv (rv_load oneT_3 rfl hii) rfl ?_
  refine WL.pv (pv_sub rfl rfl (by omega)) rfl ?_
  refine WL.pv (pv_rem rfl rfl (by omega)) rfl ?_
  refine WL.pv (pv_indexAddrA1Z (j := (n + 64 - i) % 8) arrT_127 rfl rfl (by omega) (by omega)) rfl ?_
  refine WL.rv (rv_load oneT_91 rfl (hh _ (by omega))) rfl ?_
  refine WL.pv (pv_assign rfl) rfl ?_
  refine WL.nil ?_
  refine QN.thenW ?_
  refine WC.ret ?_
  refine QN.ret1 rfl rfl ?_
  exact ⟨rfl, rfl⟩


def cells (n : Nat) (r : Nat → UInt32) : List Value := (List.range n).map fun j => w32 (r j)
theorem cells_len (n : Nat) (r : Nat → UInt32) : (cells n r).length = n := by simp [cells]
theorem cells_at {n j : Nat} (r : Nat → UInt32) (h : j < n) : (cells n r)[j]? = some (w32 (r j)) := by simp [cells, h]
def upd (r : Nat → UInt32) (k : Nat) (v : UInt32) : Nat → UInt32 := fun j => if j = k then v else r j
theorem cells_set (n : Nat) (r : Nat → UInt32) (k : Nat) (v : UInt32) : (cells n r).set k (w32 v) = cells n (upd r k v) := by
  apply List.ext_getElem?
  intro j
  rw [List.getElem?_set]
  by_cases hk : k = j
  · subst hk
    rw [if_pos rfl, cells_len]
    by_cases h : k < n
    · rw [if_pos h, cells_at _ h]; simp [upd]
    · rw [if_neg h, List.getElem?_eq_none (by rw [cells_len]; omega)]
  · rw [if_neg hk]
    by_cases h : j < n
    · rw [cells_at _ h, cells_at _ h]; simp [upd, Ne.symm hk]
    · rw [List.getElem?_eq_none (by rw [cells_len]; omega), List.getElem?_eq_none (by rw [cells_len]; omega)]
def sig0 (x : UInt32) : UInt32 := rotl x 25 ^^^ rotl x 14 ^^^ (x >>> UInt32.ofNat 3)
def sig1 (x : UInt32) : UInt32 := rotl x 15 ^^^ rotl x 13 ^^^ (x >>> UInt32.ofNat 10)
/-- The ring behind the word number i. -/
def ringN (r : Nat → UInt32) (i : Nat) : Nat → UInt32 :=
  if 16 ≤ i then upd r (i % 16) (r (i % 16) + (r ((i - 7) % 16) + sig0 (r ((i - 15) % 16)) + sig1 (r ((i - 2) % 16)))) else r
def RingPost (br : Nat) (r : Nat → UInt32) (i : Nat) (w0 : World) (e : Ending) (w : World) : Prop :=
  e = .returned (w32 (ringN r i (i % 16))) ∧ Fr (fun b => b = br) w0 w ∧ Bk w br 172 (cells 16 (ringN r i))

set_option maxRecDepth 100000 in
theorem ring_c (br i : Nat) (r : Nat → UInt32) (w0 : World) (hi : i < 64) (hb : Bk w0 br 172 (cells 16 r)) :
    Calls Try.prog 114 #[.pointer (some ⟨br, 0, none⟩), .int .i64 (i : Int)] w0 (RingPost br r i w0) := by
  refine calls_of_WC (args := [.pointer (some ⟨br, 0, none⟩), .int .i64 (i : Int)]) Try.func114 rfl Try.ntmps114 rfl ?_
  show WC _ _ _ _ [(0, .pointer (some ⟨br, 0, none⟩)), (1, .int .i64 (i : Int))] _
  have hS : ST w0 (fun b => b = br) w0 [.blk br 172 (cells 16 r)] := ST.one hb rfl
  refine WC.seq ?_
  refine WC.region ?_
  refine WL.pv (pv_assign rfl) rfl ?_
  refine WL.nil ?_
  refine QN.thenW ?_
  refine WC.seq ?_
  refine WC.seq ?_
  refine WC.region ?_
  refine WL.pv (pv_move rfl) rfl ?_
  refine WL.pv (pv_geq rfl rfl) rfl ?_
  refine WL.nil ?_
  refine QN.thenW ?_
  refine WC.condD rfl (fun hc10 => ?_) (fun hc10 => ?_)
  · skip
    refine WC.seq ?_
    refine WC.still mixedO (by kernel_rfl) ?_
    have hS := hS.no (Fr.drew _)
    refine WS.pv (pv_move rfl) rfl ?_
    refine WS.pv (pv_move rfl) rfl ?_
    refine WS.pv (pv_sub rfl rfl (by omega)) rfl ?_
    refine WS.pv (pv_rem rfl rfl (by omega)) rfl ?_
    refine WS.pv (pv_nil rfl) rfl ?_
    refine WS.pv (pv_indexAddrA1Z (j := (i - 15) % 16) arrT_172 rfl rfl (by omega) (by omega)) rfl ?_
    refine WS.rv (rv_load_blk (k := 0) hS oneT_91 rfl rfl (cells_at r (by omega))) rfl ?_
    refine WS.pv (pv_move rfl) rfl ?_
    refine WS.pv (pv_move rfl) rfl ?_
    refine WS.pv (pv_sub rfl rfl (by omega)) rfl ?_
    refine WS.pv (pv_rem rfl rfl (by omega)) rfl ?_
    refine WS.pv (pv_nil rfl) rfl ?_
    refine WS.pv (pv_indexAddrA1Z (j := (i - 2) % 16) arrT_172 rfl rfl (by omega) (by omega)) rfl ?_
    refine WS.rv (rv_load_blk (k := 0) hS oneT_91 rfl rfl (cells_at r (by omega))) rfl ?_
    refine WS.pv (pv_assign rfl) rfl ?_
    refine WS.pv (pv_assign rfl) rfl ?_
    refine WS.done ?_
    refine QN.thenW ?_
    refine WC.seq ?_
    refine WC.region ?_
    refine WL.pv (pv_move rfl) rfl ?_
    refine WL.call (args := [.tmp 25, .const (.int .i64 25)]) cf_103 rfl rfl (rotl32_c _ 25 _ (by omega)) ?_
    rintro _ _ ⟨rfl, rfl⟩
    refine ⟨_, rfl, ?_⟩
    refine WL.pv (pv_move rfl) rfl ?_
    refine WL.call (args := [.tmp 27, .const (.int .i64 14)]) cf_103 rfl rfl (rotl32_c _ 14 _ (by omega)) ?_
    rintro _ _ ⟨rfl, rfl⟩
    refine ⟨_, rfl, ?_⟩
    refine WL.pv (pv_xor32 rfl rfl) rfl ?_
    refine WL.pv (pv_move rfl) rfl ?_
    refine WL.pv (pv_shr32 (c := 3) rfl rfl (by omega)) rfl ?_
    refine WL.pv (pv_xor32 rfl rfl) rfl ?_
    refine WL.pv (pv_assign rfl) rfl ?_
    refine WL.nil ?_
    refine QN.thenW ?_
    refine WC.seq ?_
    refine WC.region ?_
    refine WL.pv (pv_move rfl) rfl ?_
    refine WL.call (args := [.tmp 33, .const (.int .i64 15)]) cf_103 rfl rfl (rotl32_c _ 15 _ (by omega)) ?_
    rintro _ _ ⟨rfl, rfl⟩
    refine ⟨_, rfl, ?_⟩
    refine WL.pv (pv_move rfl) rfl ?_
    refine WL.call (args := [.tmp 35, .const (.int .i64 13)]) cf_103 rfl rfl (rotl32_c _ 13 _ (by omega)) ?_
    rintro _ _ ⟨rfl, rfl⟩
    refine ⟨_, rfl, ?_⟩
    refine WL.pv (pv_xor32 rfl rfl) rfl ?_
    refine WL.pv (pv_move rfl) rfl ?_
    refine WL.pv (pv_shr32 (c := 10) rfl rfl (by omega)) rfl ?_
    refine WL.pv (pv_xor32 rfl rfl) rfl ?_
    refine WL.pv (pv_assign rfl) rfl ?_
    refine WL.nil ?_
    refine QN.thenW ?_
    refine WC.stillTail 20 mixedO (by kernel_rfl) ?_
    have hS := hS.no (Fr.drew _)
    refine WS.pv (pv_move rfl) rfl ?_
    refine WS.pv (pv_move rfl) rfl ?_
    refine WS.pv (pv_rem rfl rfl (by omega)) rfl ?_
    refine WS.pv (pv_nil rfl) rfl ?_
    refine WS.pv (pv_indexAddrA1Z (j := i % 16) arrT_172 rfl rfl (by omega) (by omega)) rfl ?_
    refine WS.rv (rv_load_blk (k := 0) hS oneT_91 rfl rfl (cells_at r (by omega))) rfl ?_
    refine WS.pv (pv_move rfl) rfl ?_
    refine WS.pv (pv_move rfl) rfl ?_
    refine WS.pv (pv_sub rfl rfl (by omega)) rfl ?_
    refine WS.pv (pv_rem rfl rfl (by omega)) rfl ?_
    refine WS.pv (pv_nil rfl) rfl ?_
    refine WS.pv (pv_indexAddrA1Z (j := (i - 7) % 16) arrT_172 rfl rfl (by omega) (by omega)) rfl ?_
    refine WS.rv (rv_load_blk (k := 0) hS oneT_91 rfl rfl (cells_at r (by omega))) rfl ?_
    refine WS.pv (pv_move rfl) rfl ?_
    refine WS.pv (pv_add32 rfl rfl) rfl ?_
    refine WS.pv (pv_move rfl) rfl ?_
    refine WS.pv (pv_add32 rfl rfl) rfl ?_
    refine WS.pv (pv_add32 rfl rfl) rfl ?_
    refine WS.pv (pv_nil rfl) rfl ?_
    refine WS.pv (pv_indexAddrA1Z (j := i % 16) arrT_172 rfl rfl (by omega) (by omega)) rfl ?_
    refine WS.tail ?_
    refine WL.store (k := 0) hS sizeT_91 rfl rfl rfl rfl (by rw [cells_len]; omega) ?_
    intro w hS
    try simp only [List.set] at hS
    rw [cells_set] at hS
    refine WL.nil ?_
    refine QN.thenW ?_
    refine WC.seq ?_
    refine WC.region ?_
    refine WL.pv (pv_move rfl) rfl ?_
    refine WL.pv (pv_move rfl) rfl ?_
    refine WL.pv (pv_rem rfl rfl (by omega)) rfl ?_
    refine WL.pv (pv_nil rfl) rfl ?_
    refine WL.pv (pv_indexAddrA1Z (j := i % 16) arrT_172 rfl rfl (by omega) (by omega)) rfl ?_
    refine WL.rv (rv_load_blk (k := 0) hS oneT_91 rfl rfl (cells_at _ (by omega))) rfl ?_
    refine WL.pv (pv_assign rfl) rfl ?_
    refine WL.nil ?_
    refine QN.thenW ?_
    refine WC.ret ?_
    refine QN.ret1 rfl rfl ?_
    have hr : ringN r i = upd r (i % 16) (r (i % 16) + (r ((i - 7) % 16) + sig0 (r ((i - 15) % 16)) + sig1 (r ((i - 2) % 16)))) := by unfold ringN; rw [if_pos (by omega)]
    refine ⟨?_, hS.fr, ?_⟩
    · rw [hr]; rfl
    · rw [hr]; exact hS.bk (k := 0) rfl
  · skip
    refine WC.skip ?_
    refine QN.thenW ?_
    refine WC.seq ?_
    refine WC.region ?_
    refine WL.pv (pv_move rfl) rfl ?_
    refine WL.pv (pv_move rfl) rfl ?_
    refine WL.pv (pv_rem rfl rfl (by omega)) rfl ?_
    refine WL.pv (pv_nil rfl) rfl ?_
    refine WL.pv (pv_indexAddrA1Z (j := i % 16) arrT_172 rfl rfl (by omega) (by omega)) rfl ?_
    refine WL.rv (rv_load_blk (k := 0) hS oneT_91 rfl rfl (cells_at _ (by omega))) rfl ?_
    refine WL.pv (pv_assign rfl) rfl ?_
    refine WL.nil ?_
    refine QN.thenW ?_
    refine WC.ret ?_
    refine QN.ret1 rfl rfl ?_
    have hr : ringN r i = r := by unfold ringN; rw [if_neg (by omega)]
    refine ⟨?_, hS.fr, ?_⟩
    · rw [hr]
    · rw [hr]; exact hS.bk (k := 0) rfl


theorem cells_one {n : Nat} {r : Nat → UInt32} : ∀ u ∈ cells n r, u.oneCell' = true := by simp [cells, Value.oneCell']
/-- A digest's cells. -/
def dg (sv : Value) (h : Nat → UInt32) (wv : Value) (n : UInt64) : List Value := sv :: (cells 8 h ++ [wv, w64 n])
theorem dg_len (sv : Value) (h : Nat → UInt32) (wv : Value) (n : UInt64) : (dg sv h wv n).length = 11 := by simp [dg, cells_len]
theorem dg_at {sv : Value} {h : Nat → UInt32} {wv : Value} {n : UInt64} {j : Nat} (hj : j < 8) : (dg sv h wv n)[1 + j]? = some (w32 (h j)) := by
  rw [dg, Nat.add_comm, List.getElem?_cons_succ, List.getElem?_append_left (by rw [cells_len]; exact hj), cells_at h hj]
theorem dg_set {sv : Value} {h : Nat → UInt32} {wv : Value} {n : UInt64} {j : Nat} (hj : j < 8) (v : UInt32) : (dg sv h wv n).set (1 + j) (w32 v) = dg sv (upd h j v) wv n := by
  rw [dg, Nat.add_comm, List.set_cons_succ, List.set_append_left _ _ (by rw [cells_len]; exact hj), cells_set]; rfl
/-- The ring while a block's bytes go in. -/
def fillR (bl : List UInt8) : Nat → Nat → UInt32
  | 0 => fun _ => 0
  | k + 1 => upd (fillR bl k) (k / 4) ((fillR bl k (k / 4)) <<< UInt32.ofNat 8 ||| (bl[k]?.getD 0).toUInt32)
def hAt (H : Nat → UInt32) (i n : Nat) : UInt32 := H ((n + 64 - i) % 8)
def oneOf (H r K : Nat → UInt32) (i : Nat) : UInt32 :=
  hAt H i 7 + (rotl (hAt H i 4) 26 ^^^ rotl (hAt H i 4) 21 ^^^ rotl (hAt H i 4) 7) + (hAt H i 6 ^^^ (hAt H i 4 &&& (hAt H i 5 ^^^ hAt H i 6))) + K i + ringN r i (i % 16)
def twoOf (H : Nat → UInt32) (i : Nat) : UInt32 :=
  (rotl (hAt H i 0) 30 ^^^ rotl (hAt H i 0) 19 ^^^ rotl (hAt H i 0) 10)
def mostOf (H : Nat → UInt32) (i : Nat) : UInt32 := hAt H i 0 &&& hAt H i 1 ||| hAt H i 2 &&& (hAt H i 0 ||| hAt H i 1)
def stepH (H r K : Nat → UInt32) (i : Nat) : Nat → UInt32 :=
  upd (upd H ((67 - i) % 8) (H ((67 - i) % 8) + oneOf H r K i)) ((71 - i) % 8) (oneOf H r K i + twoOf H i + mostOf H i)
def rnd (h r0 K : Nat → UInt32) : Nat → (Nat → UInt32) × (Nat → UInt32)
  | 0 => (h, r0)
  | i + 1 => (stepH (rnd h r0 K i).1 (rnd h r0 K i).2 K i, ringN (rnd h r0 K i).2 i)
def addH (h H : Nat → UInt32) : Nat → Nat → UInt32
  | 0 => h
  | k + 1 => upd (addH h H k) k (addH h H k k + H k)
/-- The eight words behind a block. -/
def fullH (K : Nat → UInt32) (h : Nat → UInt32) (bl : List UInt8) : Nat → UInt32 := addH h (rnd h (fillR bl 64) K 64).1 8
def FullPost (bd : Nat) (sv : Value) (K h : Nat → UInt32) (wv : Value) (n : UInt64) (bl : List UInt8) (w0 : World) (e : Ending) (w : World) : Prop :=
  e = .returned (.tuple #[]) ∧ Fr (fun b => b = bd) w0 w ∧ Bk w bd 132 (dg sv (fullH K h bl) wv n)

set_option maxHeartbeats 1000000 in
set_option maxRecDepth 100000 in
theorem full_c (bd bs c : Nat) (A : Option Addr) (K h : Nat → UInt32) (wv : Value) (n : UInt64) (bl : List UInt8) (w0 : World) (hd : Bk w0 bd 132 (dg (.pointer (some ⟨bs, 0, none⟩)) h wv n))
    (hK : ∀ j u, (cells 64 K)[j]? = some u → w0.cell? ⟨bs, 0 + 8 + j, none⟩ = some u) (hbs : ¬ bs = bd) (hb : Rs w0 (.slice A 64 c) 1 (bs8 bl)) (hl : bl.length = 64) (hA : ∀ a, A = some a → ¬ a.block = bd) :
    Calls Try.prog 101 #[.pointer (some ⟨bd, 0, none⟩), .slice A 64 c] w0 (FullPost bd (.pointer (some ⟨bs, 0, none⟩)) K h wv n bl w0) := by
  obtain ⟨bb, o, rfl, _, hc1, hc2, hcell⟩ := hb.at_ (by rw [bs8_len]; omega)
  have hbb : ¬ bb = bd := hA _ rfl
  refine calls_of_WC (args := [.pointer (some ⟨bd, 0, none⟩), .slice (some ⟨bb, o, none⟩) 64 c]) Try.func101 rfl Try.ntmps101 rfl ?_
  show WC _ _ _ _ [(0, .pointer (some ⟨bd, 0, none⟩)), (1, .slice (some ⟨bb, o, none⟩) 64 c)] _
  have hS : ST w0 (fun b => b = bd) w0 [.blk bd 132 (dg (.pointer (some ⟨bs, 0, none⟩)) h wv n)] := ST.one hd rfl
  refine WC.seq ?_
  refine WC.region ?_
  refine WL.alloc hS zeroT_172 rfl ?_
  intro b4 w hb4 hS
  rw [show (List.replicate 16 (w32 0)) = cells 16 (fillR bl 0) from rfl] at hS
  refine WL.nil ?_
  refine QN.thenW ?_
  refine WC.seq ?_
  refine WC.seq ?_
  refine WC.region ?_
  refine WL.pv (pv_move rfl) rfl ?_
  refine WL.pv (pv_len slS_22 rfl) rfl ?_
  refine WL.pv (pv_move rfl) rfl ?_
  refine WL.nil ?_
  refine QN.thenW ?_
  refine WC.block ?_
  refine WC.loop (α := Nat) (fun k => [(0, .pointer (some ⟨bd, 0, none⟩)), (4, .pointer (some ⟨b4, 0, none⟩)), (16, .slice (some ⟨bb, o, none⟩) 64 c), (17, .int .i64 ((64 : Nat) : Int)), (18, .int .i64 (k : Int))]) (fun k w => k ≤ 64 ∧ ST w0 (fun b => b = bd) w [.blk b4 172 (cells 16 (fillR bl k)), .blk bd 132 (dg (.pointer (some ⟨bs, 0, none⟩)) h wv n)]) (fun k => 64 - k) (0) (Sub.cons rfl (Sub.cons rfl (Sub.cons rfl (Sub.cons rfl (Sub.cons rfl Sub.nil))))) ⟨by omega, hS⟩ ?_
  rintro k w N hN hR
  obtain ⟨hk, hS⟩ := hR
  refine WC.seq ?_
  refine WC.region ?_
  refine WL.pv (pv_lss rfl rfl) rfl ?_
  refine WL.nil ?_
  refine QN.thenW ?_
  refine WC.seq ?_
  refine WC.condD rfl (fun hc19 => ?_) (fun hc19 => ?_)
  · skip
    have hk64 : k < 64 := by omega
    refine WC.skip ?_
    refine QN.thenW ?_
    refine WC.seq ?_
    refine WC.block ?_
    refine WC.seq ?_
    refine WC.region ?_
    refine WL.pv (pv_move rfl) rfl ?_
    refine WL.pv (pv_indexAddrS1 slT_22 rfl rfl rfl (by omega)) rfl ?_
    refine WL.rv (rv_load oneT_5 rfl (hS.fr.cellS (hcell k _ (bs8_at (by omega))) hbb)) rfl ?_
    refine WL.pv (pv_assign rfl) rfl ?_
    refine WL.pv (pv_assign rfl) rfl ?_
    refine WL.nil ?_
    refine QN.thenW ?_
    refine WC.region ?_
    refine WL.pv (pv_move rfl) rfl ?_
    refine WL.pv (pv_quo rfl rfl (by omega)) rfl ?_
    refine WL.pv (pv_move rfl) rfl ?_
    refine WL.pv (pv_quo rfl rfl (by omega)) rfl ?_
    refine WL.pv (pv_indexAddrA1Z (j := k / 4) arrT_172 rfl rfl (by omega) (by omega)) rfl ?_
    refine WL.rv (rv_load_blk (k := 0) hS oneT_91 rfl rfl (cells_at _ (by omega))) rfl ?_
    refine WL.pv (pv_shl32 (c := 8) rfl rfl (by omega)) rfl ?_
    refine WL.pv (pv_move rfl) rfl ?_
    refine WL.pv (pv_conv someT_5 Try.underlying91 rfl (cv_8_32 _)) rfl ?_
    refine WL.pv (pv_or32 rfl rfl) rfl ?_
    refine WL.pv (pv_indexAddrA1Z (j := k / 4) arrT_172 rfl rfl (by omega) (by omega)) rfl ?_
    refine WL.store (k := 0) hS sizeT_91 rfl rfl rfl rfl (by rw [cells_len]; omega) ?_
    intro w hS
    try simp only [List.set] at hS
    rw [cells_set, show upd (fillR bl k) (k / 4) ((fillR bl k (k / 4)) <<< UInt32.ofNat 8 ||| (bl[k]).toUInt32) = fillR bl (k + 1) from by rw [fillR, List.getElem?_eq_getElem (by omega)]; rfl] at hS
    refine WL.nil ?_
    refine QN.blockN ?_
    refine QN.thenW ?_
    refine WC.region ?_
    refine WL.pv (pv_add rfl rfl (by omega)) rfl ?_
    refine WL.pv (pv_move rfl) rfl ?_
    refine WL.nil ?_
    refine QN.roundE ?_
    refine ⟨(k + 1), (Sub.cons rfl (Sub.cons rfl (Sub.cons rfl (Sub.cons rfl (Sub.cons rfl Sub.nil))))), ⟨by omega, hS⟩, ?_⟩
    first | omega | (dsimp only; omega)
  · skip
    obtain rfl : k = 64 := by omega
    refine WC.exit ?_
    refine QN.thenX ?_
    refine QN.thenX ?_
    refine QN.blockX ?_
    refine QN.thenW ?_
    refine WC.seq ?_
    refine WC.region ?_
    refine WL.pv (pv_move rfl) rfl ?_
    refine WL.pv (pv_nil rfl) rfl ?_
    refine WL.pv (pv_fieldAddrZ fldT_132_1 rfl) rfl ?_
    refine WL.rv (rv_load_part (k := 1) (m := 8) hS rfl rfl aggT_127 (by rw [dg_len]; omega)) rfl ?_
    refine WL.alloc hS zeroT_127 rfl ?_
    intro b7 w hb7 hS
    refine WL.storeAll (k := 0) (vs := cells 8 h) hS (by rw [sizeT_127, cells_len]) rfl rfl rfl cells_one (by simp [cells_len]) ?_
    intro w hS
    try simp only [List.set] at hS
    refine WL.nil ?_
    refine QN.thenW ?_
    refine WC.seq ?_
    refine WC.seq ?_
    refine WC.region ?_
    refine WL.pv (pv_move rfl) rfl ?_
    refine WL.pv (pv_nil rfl) rfl ?_
    refine WL.pv (pv_fieldAddrZ fldT_132_0 rfl) rfl ?_
    refine WL.rv (rv_load_blk (k := 2) hS oneT_124 rfl rfl rfl) rfl ?_
    refine WL.pv (pv_nil rfl) rfl ?_
    refine WL.pv (pv_fieldAddr (o := 0) fldT_130_1 rfl) rfl ?_
    refine WL.rv (rv_loadA (cs := cells 64 K) (by rw [aggT_128, cells_len]) rfl (fun j u hu => hS.fr.cellS (hK j u hu) hbs)) rfl ?_
    refine WL.pv (pv_move rfl) rfl ?_
    refine WL.nil ?_
    refine QN.thenW ?_
    refine WC.block ?_
    refine WC.loop (α := Nat) (fun i => [(0, .pointer (some ⟨bd, 0, none⟩)), (4, .pointer (some ⟨b4, 0, none⟩)), (7, .pointer (some ⟨b7, 0, none⟩)), (45, .agg (cells 64 K).toArray), (46, .int .i64 (i : Int))]) (fun i w => i ≤ 64 ∧ ST w0 (fun b => b = bd) w [.blk b7 127 (cells 8 (rnd h (fillR bl 64) K i).1), .blk b4 172 (cells 16 (rnd h (fillR bl 64) K i).2), .blk bd 132 (dg (.pointer (some ⟨bs, 0, none⟩)) h wv n)]) (fun i => 64 - i) (0) (Sub.cons rfl (Sub.cons rfl (Sub.cons rfl (Sub.cons rfl (Sub.cons rfl Sub.nil))))) ⟨by omega, hS⟩ ?_
    rintro i w N hN hR
    obtain ⟨hk, hS⟩ := hR
    refine WC.seq ?_
    refine WC.region ?_
    refine WL.pv (pv_lss rfl rfl) rfl ?_
    refine WL.nil ?_
    refine QN.thenW ?_
    refine WC.seq ?_
    refine WC.condD rfl (fun hc47 => ?_) (fun hc47 => ?_)
    · skip
      have hi : i < 64 := by omega
      generalize hH : rnd h (fillR bl 64) K i = HR at hS
      obtain ⟨H, r⟩ := HR
      refine WC.skip ?_
      refine QN.thenW ?_
      refine WC.seq ?_
      refine WC.block ?_
      refine WC.seq ?_
      refine WC.region ?_
      refine WL.pv (pv_move rfl) rfl ?_
      refine WL.pv (pv_index arrT_128 (fun e he => by rw [Try.underlying128] at he; injection he with he; injection he with _ he; subst he; exact oneT_91) rfl rfl rfl (by omega) (cells_at K (by omega))) rfl ?_
      refine WL.alloc hS zeroT_3 rfl ?_
      intro b8 w hb8 hS
      refine WL.store (k := 0) hS sizeT_3 rfl rfl rfl rfl (by simp) ?_
      intro w hS
      try simp only [List.set] at hS
      refine WL.pv (pv_assign rfl) rfl ?_
      refine WL.nil ?_
      refine QN.thenW ?_
      refine WC.seq ?_
      refine WC.region ?_
      refine WL.pv (pv_func (cap := [.tmp 7, .tmp 8]) rfl) rfl ?_
      refine WL.pv (pv_assign rfl) rfl ?_
      refine WL.nil ?_
      refine QN.thenW ?_
      refine WC.seq ?_
      refine WC.region ?_
      refine WL.pv (pv_move rfl) rfl ?_
      refine WL.callv (args := [.const (.int .i64 4)]) rfl cf_113 rfl rfl (at_c b7 b8 4 i _ _ (by omega) hi (fun j hj => hS.cell (k := 1) rfl (cells_at _ hj)) (hS.cell (k := 0) rfl rfl)) ?_
      rintro _ _ ⟨rfl, rfl⟩
      refine ⟨_, rfl, ?_⟩
      refine WL.call (args := [.tmp 52, .const (.int .i64 26)]) cf_103 rfl rfl (rotl32_c _ 26 _ (by omega)) ?_
      rintro _ _ ⟨rfl, rfl⟩
      refine ⟨_, rfl, ?_⟩
      refine WL.pv (pv_move rfl) rfl ?_
      refine WL.callv (args := [.const (.int .i64 4)]) rfl cf_113 rfl rfl (at_c b7 b8 4 i _ _ (by omega) hi (fun j hj => hS.cell (k := 1) rfl (cells_at _ hj)) (hS.cell (k := 0) rfl rfl)) ?_
      rintro _ _ ⟨rfl, rfl⟩
      refine ⟨_, rfl, ?_⟩
      refine WL.call (args := [.tmp 55, .const (.int .i64 21)]) cf_103 rfl rfl (rotl32_c _ 21 _ (by omega)) ?_
      rintro _ _ ⟨rfl, rfl⟩
      refine ⟨_, rfl, ?_⟩
      refine WL.pv (pv_xor32 rfl rfl) rfl ?_
      refine WL.pv (pv_move rfl) rfl ?_
      refine WL.callv (args := [.const (.int .i64 4)]) rfl cf_113 rfl rfl (at_c b7 b8 4 i _ _ (by omega) hi (fun j hj => hS.cell (k := 1) rfl (cells_at _ hj)) (hS.cell (k := 0) rfl rfl)) ?_
      rintro _ _ ⟨rfl, rfl⟩
      refine ⟨_, rfl, ?_⟩
      refine WL.call (args := [.tmp 59, .const (.int .i64 7)]) cf_103 rfl rfl (rotl32_c _ 7 _ (by omega)) ?_
      rintro _ _ ⟨rfl, rfl⟩
      refine ⟨_, rfl, ?_⟩
      refine WL.pv (pv_xor32 rfl rfl) rfl ?_
      refine WL.pv (pv_assign rfl) rfl ?_
      refine WL.nil ?_
      refine QN.thenW ?_
      refine WC.seq ?_
      refine WC.region ?_
      refine WL.pv (pv_move rfl) rfl ?_
      refine WL.callv (args := [.const (.int .i64 6)]) rfl cf_113 rfl rfl (at_c b7 b8 6 i _ _ (by omega) hi (fun j hj => hS.cell (k := 1) rfl (cells_at _ hj)) (hS.cell (k := 0) rfl rfl)) ?_
      rintro _ _ ⟨rfl, rfl⟩
      refine ⟨_, rfl, ?_⟩
      refine WL.pv (pv_move rfl) rfl ?_
      refine WL.callv (args := [.const (.int .i64 4)]) rfl cf_113 rfl rfl (at_c b7 b8 4 i _ _ (by omega) hi (fun j hj => hS.cell (k := 1) rfl (cells_at _ hj)) (hS.cell (k := 0) rfl rfl)) ?_
      rintro _ _ ⟨rfl, rfl⟩
      refine ⟨_, rfl, ?_⟩
      refine WL.pv (pv_move rfl) rfl ?_
      refine WL.callv (args := [.const (.int .i64 5)]) rfl cf_113 rfl rfl (at_c b7 b8 5 i _ _ (by omega) hi (fun j hj => hS.cell (k := 1) rfl (cells_at _ hj)) (hS.cell (k := 0) rfl rfl)) ?_
      rintro _ _ ⟨rfl, rfl⟩
      refine ⟨_, rfl, ?_⟩
      refine WL.pv (pv_move rfl) rfl ?_
      refine WL.callv (args := [.const (.int .i64 6)]) rfl cf_113 rfl rfl (at_c b7 b8 6 i _ _ (by omega) hi (fun j hj => hS.cell (k := 1) rfl (cells_at _ hj)) (hS.cell (k := 0) rfl rfl)) ?_
      rintro _ _ ⟨rfl, rfl⟩
      refine ⟨_, rfl, ?_⟩
      refine WL.pv (pv_xor32 rfl rfl) rfl ?_
      refine WL.pv (pv_and32 rfl rfl) rfl ?_
      refine WL.pv (pv_xor32 rfl rfl) rfl ?_
      refine WL.pv (pv_assign rfl) rfl ?_
      refine WL.nil ?_
      refine QN.thenW ?_
      refine WC.seq ?_
      refine WC.draw (S := fun w => w.cell? ⟨b8, 0, none⟩ = some (.int .i64 (i : Int))) (fuel := 12) (listed := #[false, false, false, false, false, false, false, false, false, false, false, false]) mixedO rfl rfl ?_
      have hS := hS.no (Fr.drew _)
      refine WH.take (listed' := #[true, false, false, false, false, false, false, false, false, false, false, false]) 0 rfl (by kernel_rfl) (by kernel_rfl) (by kernel_rfl) (fun _ _ _ h => h) rfl (fun w _ => PV.rv (pv_move rfl) w) (hS.cell (k := 0) rfl rfl) rfl ?_
      refine WH.take (listed' := #[true, false, true, false, false, false, false, false, false, false, false, false]) 2 rfl (by kernel_rfl) (by kernel_rfl) (by kernel_rfl) (fun _ _ _ h => h) rfl (fun w _ => PV.rv (pv_move rfl) w) (hS.cell (k := 0) rfl rfl) rfl ?_
      refine WH.take (listed' := #[true, false, true, false, true, false, false, false, false, false, false, false]) 4 rfl (by kernel_rfl) (by kernel_rfl) (by kernel_rfl) (fun _ _ _ h => h) rfl (fun w _ => PV.rv (pv_move rfl) w) (hS.cell (k := 0) rfl rfl) rfl ?_
      refine WH.take (listed' := #[true, false, true, false, true, false, true, false, false, false, false, false]) 6 rfl (by kernel_rfl) (by kernel_rfl) (by kernel_rfl) (fun _ _ _ h => h) rfl (fun w _ => PV.rv (pv_move rfl) w) (hS.cell (k := 0) rfl rfl) rfl ?_
      refine WH.take (listed' := #[true, false, true, false, true, false, true, false, true, false, false, false]) 8 rfl (by kernel_rfl) (by kernel_rfl) (by kernel_rfl) (fun _ _ _ h => h) rfl (fun w hS => rv_load oneT_3 rfl hS) (hS.cell (k := 0) rfl rfl) rfl ?_
      refine WH.one (listed' := #[true, true, true, false, true, false, true, false, true, false, false, false]) 1 rfl (by kernel_rfl) rfl ?_
      refine WL.callv (args := [.const (.int .i64 7)]) rfl cf_113 rfl rfl (at_c b7 b8 7 i _ _ (by omega) hi (fun j hj => hS.cell (k := 1) rfl (cells_at _ hj)) (hS.cell (k := 0) rfl rfl)) ?_
      rintro _ _ ⟨rfl, rfl⟩
      refine ⟨_, rfl, ?_⟩
      refine WL.nil ?_
      refine QN.held (hS.cell (k := 0) rfl rfl) ?_
      refine WH.take (listed' := #[true, true, true, true, true, false, true, false, true, false, false, false]) 3 rfl (by kernel_rfl) (by kernel_rfl) (by kernel_rfl) (fun _ _ _ h => h) rfl (fun w _ => PV.rv (pv_add32 rfl rfl) w) (hS.cell (k := 0) rfl rfl) rfl ?_
      refine WH.take (listed' := #[true, true, true, true, true, true, true, false, true, false, false, false]) 5 rfl (by kernel_rfl) (by kernel_rfl) (by kernel_rfl) (fun _ _ _ h => h) rfl (fun w _ => PV.rv (pv_add32 rfl rfl) w) (hS.cell (k := 0) rfl rfl) rfl ?_
      refine WH.take (listed' := #[true, true, true, true, true, true, true, true, true, false, false, false]) 7 rfl (by kernel_rfl) (by kernel_rfl) (by kernel_rfl) (fun _ _ _ h => h) rfl (fun w _ => PV.rv (pv_add32 rfl rfl) w) (hS.cell (k := 0) rfl rfl) rfl ?_
      refine WH.one (listed' := #[true, true, true, true, true, true, true, true, true, true, false, false]) 9 rfl (by kernel_rfl) rfl ?_
      refine WL.call (args := [.tmp 4, .tmp 81]) cf_114 rfl rfl (ring_c b4 i r _ hi (hS.bk (k := 2) rfl)) ?_
      rintro _ w ⟨rfl, hF, hB⟩
      refine ⟨_, rfl, ?_⟩
      replace hS := hS.updB (k := 2) rfl hF hB
      simp only [List.set] at hS
      refine WL.nil ?_
      refine QN.held (hS.cell (k := 0) rfl rfl) ?_
      refine WH.take (listed' := #[true, true, true, true, true, true, true, true, true, true, true, false]) 10 rfl (by kernel_rfl) (by kernel_rfl) (by kernel_rfl) (fun _ _ _ h => h) rfl (fun w _ => PV.rv (pv_add32 rfl rfl) w) (hS.cell (k := 0) rfl rfl) rfl ?_
      refine WH.take (listed' := #[true, true, true, true, true, true, true, true, true, true, true, true]) 11 rfl (by kernel_rfl) (by kernel_rfl) (by kernel_rfl) (fun _ _ _ h => h) rfl (fun w _ => PV.rv (pv_assign rfl) w) (hS.cell (k := 0) rfl rfl) rfl ?_
      refine WH.done (by kernel_rfl) ?_
      refine QN.thenW ?_
      refine WC.seq ?_
      refine WC.region ?_
      refine WL.pv (pv_move rfl) rfl ?_
      refine WL.callv (args := [.const (.int .i64 0)]) rfl cf_113 rfl rfl (at_c b7 b8 0 i _ _ (by omega) hi (fun j hj => hS.cell (k := 1) rfl (cells_at _ hj)) (hS.cell (k := 0) rfl rfl)) ?_
      rintro _ _ ⟨rfl, rfl⟩
      refine ⟨_, rfl, ?_⟩
      refine WL.call (args := [.tmp 85, .const (.int .i64 30)]) cf_103 rfl rfl (rotl32_c _ 30 _ (by omega)) ?_
      rintro _ _ ⟨rfl, rfl⟩
      refine ⟨_, rfl, ?_⟩
      refine WL.pv (pv_move rfl) rfl ?_
      refine WL.callv (args := [.const (.int .i64 0)]) rfl cf_113 rfl rfl (at_c b7 b8 0 i _ _ (by omega) hi (fun j hj => hS.cell (k := 1) rfl (cells_at _ hj)) (hS.cell (k := 0) rfl rfl)) ?_
      rintro _ _ ⟨rfl, rfl⟩
      refine ⟨_, rfl, ?_⟩
      refine WL.call (args := [.tmp 88, .const (.int .i64 19)]) cf_103 rfl rfl (rotl32_c _ 19 _ (by omega)) ?_
      rintro _ _ ⟨rfl, rfl⟩
      refine ⟨_, rfl, ?_⟩
      refine WL.pv (pv_xor32 rfl rfl) rfl ?_
      refine WL.pv (pv_move rfl) rfl ?_
      refine WL.callv (args := [.const (.int .i64 0)]) rfl cf_113 rfl rfl (at_c b7 b8 0 i _ _ (by omega) hi (fun j hj => hS.cell (k := 1) rfl (cells_at _ hj)) (hS.cell (k := 0) rfl rfl)) ?_
      rintro _ _ ⟨rfl, rfl⟩
      refine ⟨_, rfl, ?_⟩
      refine WL.call (args := [.tmp 92, .const (.int .i64 10)]) cf_103 rfl rfl (rotl32_c _ 10 _ (by omega)) ?_
      rintro _ _ ⟨rfl, rfl⟩
      refine ⟨_, rfl, ?_⟩
      refine WL.pv (pv_xor32 rfl rfl) rfl ?_
      refine WL.pv (pv_assign rfl) rfl ?_
      refine WL.nil ?_
      refine QN.thenW ?_
      refine WC.seq ?_
      refine WC.region ?_
      refine WL.pv (pv_move rfl) rfl ?_
      refine WL.callv (args := [.const (.int .i64 0)]) rfl cf_113 rfl rfl (at_c b7 b8 0 i _ _ (by omega) hi (fun j hj => hS.cell (k := 1) rfl (cells_at _ hj)) (hS.cell (k := 0) rfl rfl)) ?_
      rintro _ _ ⟨rfl, rfl⟩
      refine ⟨_, rfl, ?_⟩
      refine WL.pv (pv_move rfl) rfl ?_
      refine WL.callv (args := [.const (.int .i64 1)]) rfl cf_113 rfl rfl (at_c b7 b8 1 i _ _ (by omega) hi (fun j hj => hS.cell (k := 1) rfl (cells_at _ hj)) (hS.cell (k := 0) rfl rfl)) ?_
      rintro _ _ ⟨rfl, rfl⟩
      refine ⟨_, rfl, ?_⟩
      refine WL.pv (pv_and32 rfl rfl) rfl ?_
      refine WL.pv (pv_move rfl) rfl ?_
      refine WL.callv (args := [.const (.int .i64 2)]) rfl cf_113 rfl rfl (at_c b7 b8 2 i _ _ (by omega) hi (fun j hj => hS.cell (k := 1) rfl (cells_at _ hj)) (hS.cell (k := 0) rfl rfl)) ?_
      rintro _ _ ⟨rfl, rfl⟩
      refine ⟨_, rfl, ?_⟩
      refine WL.pv (pv_move rfl) rfl ?_
      refine WL.callv (args := [.const (.int .i64 0)]) rfl cf_113 rfl rfl (at_c b7 b8 0 i _ _ (by omega) hi (fun j hj => hS.cell (k := 1) rfl (cells_at _ hj)) (hS.cell (k := 0) rfl rfl)) ?_
      rintro _ _ ⟨rfl, rfl⟩
      refine ⟨_, rfl, ?_⟩
      refine WL.pv (pv_move rfl) rfl ?_
      refine WL.callv (args := [.const (.int .i64 1)]) rfl cf_113 rfl rfl (at_c b7 b8 1 i _ _ (by omega) hi (fun j hj => hS.cell (k := 1) rfl (cells_at _ hj)) (hS.cell (k := 0) rfl rfl)) ?_
      rintro _ _ ⟨rfl, rfl⟩
      refine ⟨_, rfl, ?_⟩
      refine WL.pv (pv_or32 rfl rfl) rfl ?_
      refine WL.pv (pv_and32 rfl rfl) rfl ?_
      refine WL.pv (pv_or32 rfl rfl) rfl ?_
      refine WL.pv (pv_assign rfl) rfl ?_
      refine WL.nil ?_
      refine QN.thenW ?_
      refine WC.seq ?_
      refine WC.region ?_
      refine WL.rv (rv_load_blk (k := 0) hS oneT_3 rfl rfl rfl) rfl ?_
      refine WL.pv (pv_sub rfl rfl (by omega)) rfl ?_
      refine WL.pv (pv_rem rfl rfl (by omega)) rfl ?_
      refine WL.pv (pv_indexAddrA1Z (j := (67 - i) % 8) arrT_127 rfl rfl (by omega) (by omega)) rfl ?_
      refine WL.rv (rv_load_blk (k := 1) hS oneT_91 rfl rfl (cells_at _ (by omega))) rfl ?_
      refine WL.pv (pv_move rfl) rfl ?_
      refine WL.pv (pv_add32 rfl rfl) rfl ?_
      refine WL.pv (pv_indexAddrA1Z (j := (67 - i) % 8) arrT_127 rfl rfl (by omega) (by omega)) rfl ?_
      refine WL.store (k := 1) hS sizeT_91 rfl rfl rfl rfl (by rw [cells_len]; omega) ?_
      intro w hS
      try simp only [List.set] at hS
      rw [cells_set] at hS
      refine WL.nil ?_
      refine QN.thenW ?_
      refine WC.region ?_
      refine WL.rv (rv_load_blk (k := 0) hS oneT_3 rfl rfl rfl) rfl ?_
      refine WL.pv (pv_sub rfl rfl (by omega)) rfl ?_
      refine WL.pv (pv_rem rfl rfl (by omega)) rfl ?_
      refine WL.pv (pv_move rfl) rfl ?_
      refine WL.pv (pv_move rfl) rfl ?_
      refine WL.pv (pv_add32 rfl rfl) rfl ?_
      refine WL.pv (pv_move rfl) rfl ?_
      refine WL.pv (pv_add32 rfl rfl) rfl ?_
      refine WL.pv (pv_indexAddrA1Z (j := (71 - i) % 8) arrT_127 rfl rfl (by omega) (by omega)) rfl ?_
      refine WL.store (k := 1) hS sizeT_91 rfl rfl rfl rfl (by rw [cells_len]; omega) ?_
      intro w hS
      try simp only [List.set] at hS
      rw [cells_set] at hS
      have e1 : (rnd h (fillR bl 64) K (i + 1)).1 = stepH H r K i := by rw [rnd, hH]
      have e2 : (rnd h (fillR bl 64) K (i + 1)).2 = ringN r i := by rw [rnd, hH]
      change ST w0 _ w (_ :: Ent.blk b7 127 (cells 8 (stepH H r K i)) :: _) at hS
      rw [← e1, ← e2] at hS
      refine WL.nil ?_
      refine QN.blockN ?_
      refine QN.thenW ?_
      refine WC.region ?_
      refine WL.pv (pv_add rfl rfl (by omega)) rfl ?_
      refine WL.pv (pv_move rfl) rfl ?_
      refine WL.nil ?_
      replace hS := hS.drop
      refine QN.roundE ?_
      refine ⟨(i + 1), (Sub.cons rfl (Sub.cons rfl (Sub.cons rfl (Sub.cons rfl (Sub.cons rfl Sub.nil))))), ⟨by omega, hS⟩, ?_⟩
      first | omega | (dsimp only; omega)
    · skip
      obtain rfl : i = 64 := by omega
      refine WC.exit ?_
      refine QN.thenX ?_
      refine QN.thenX ?_
      refine QN.blockX ?_
      refine QN.thenW ?_
      refine WC.seq ?_
      refine WC.region ?_
      refine WL.pv (pv_move rfl) rfl ?_
      refine WL.nil ?_
      refine QN.thenW ?_
      refine WC.block ?_
      refine WC.loop (α := Nat) (fun k => [(0, .pointer (some ⟨bd, 0, none⟩)), (7, .pointer (some ⟨b7, 0, none⟩)), (127, .int .i64 (k : Int))]) (fun k w => k ≤ 8 ∧ ST w0 (fun b => b = bd) w [.blk b7 127 (cells 8 (rnd h (fillR bl 64) K 64).1), .blk bd 132 (dg (.pointer (some ⟨bs, 0, none⟩)) (addH h (rnd h (fillR bl 64) K 64).1 k) wv n)]) (fun k => 8 - k) (0) (Sub.cons rfl (Sub.cons rfl (Sub.cons rfl Sub.nil))) ⟨by omega, hS.erase 1⟩ ?_
      rintro k w N hN hR
      obtain ⟨hk, hS⟩ := hR
      refine WC.seq ?_
      refine WC.region ?_
      refine WL.pv (pv_lss rfl rfl) rfl ?_
      refine WL.nil ?_
      refine QN.thenW ?_
      refine WC.seq ?_
      refine WC.condD rfl (fun hc128 => ?_) (fun hc128 => ?_)
      · skip
        have hk8 : k < 8 := by omega
        refine WC.skip ?_
        refine QN.thenW ?_
        refine WC.seq ?_
        refine WC.block ?_
        refine WC.seq ?_
        refine WC.region ?_
        refine WL.pv (pv_move rfl) rfl ?_
        refine WL.pv (pv_assign rfl) rfl ?_
        refine WL.nil ?_
        refine QN.thenW ?_
        refine WC.stillTail 13 mixedO (by kernel_rfl) ?_
        have hS := hS.no (Fr.drew _)
        refine WS.pv (pv_move rfl) rfl ?_
        refine WS.pv (pv_move rfl) rfl ?_
        refine WS.pv (pv_nil rfl) rfl ?_
        refine WS.pv (pv_fieldAddrZ fldT_132_1 rfl) rfl ?_
        refine WS.pv (pv_indexAddrA1 arrT_127 rfl rfl rfl (by omega)) rfl ?_
        refine WS.rv (rv_load_blk (k := 1) hS oneT_91 rfl rfl (dg_at (by omega))) rfl ?_
        refine WS.pv (pv_move rfl) rfl ?_
        refine WS.pv (pv_indexAddrA1Z arrT_127 rfl rfl rfl (by omega)) rfl ?_
        refine WS.rv (rv_load_blk (k := 0) hS oneT_91 rfl rfl (cells_at _ (by omega))) rfl ?_
        refine WS.pv (pv_add32 rfl rfl) rfl ?_
        refine WS.pv (pv_nil rfl) rfl ?_
        refine WS.pv (pv_fieldAddrZ fldT_132_1 rfl) rfl ?_
        refine WS.pv (pv_indexAddrA1 arrT_127 rfl rfl rfl (by omega)) rfl ?_
        refine WS.tail ?_
        refine WL.store (k := 1) hS sizeT_91 rfl rfl rfl rfl (by rw [dg_len]; omega) ?_
        intro w hS
        try simp only [List.set] at hS
        rw [dg_set (by omega)] at hS
        refine WL.nil ?_
        refine QN.blockN ?_
        refine QN.thenW ?_
        refine WC.region ?_
        refine WL.pv (pv_add rfl rfl (by omega)) rfl ?_
        refine WL.pv (pv_move rfl) rfl ?_
        refine WL.nil ?_
        refine QN.roundE ?_
        refine ⟨(k + 1), (Sub.cons rfl (Sub.cons rfl (Sub.cons rfl Sub.nil))), ⟨by omega, hS⟩, ?_⟩
        first | omega | (dsimp only; omega)
      · skip
        obtain rfl : k = 8 := by omega
        refine WC.exit ?_
        refine QN.thenX ?_
        refine QN.thenX ?_
        refine QN.blockX ?_
        refine QN.end0 rfl ?_
        exact ⟨rfl, hS.fr, hS.bk (k := 1) rfl⟩

end Go.Proofs.Ytjcebkhhgdgohaa
namespace Go.Proofs.Ytjcebkhhgdgohaa
open Go Go.RowKit Go.Eng
theorem cf_101 : callable Try.prog 101 = true := by kernel_rfl
theorem fldT_132_2 : fldT Try.prog 132 2 = some 9 := by kernel_rfl
theorem fldT_132_3 : fldT Try.prog 132 3 = some 10 := by kernel_rfl
theorem oneT_22 : oneT Try.prog 22 = true := by kernel_rfl
theorem oneT_86 : oneT Try.prog 86 = true := by kernel_rfl
theorem sizeT_22 : sizeT Try.prog 22 = some 1 := by kernel_rfl
theorem sizeT_86 : sizeT Try.prog 86 = some 1 := by kernel_rfl
theorem zeroT_5 : zeroT Try.prog 5 = some ([b8 0]) := by kernel_rfl
theorem zlenT_5 : (zeroT Try.prog 5).map List.length = some 1 := by kernel_rfl

/-- One byte taken: the words and the bytes that wait. -/
def tk (K : Nat → UInt32) (s : (Nat → UInt32) × List UInt8) (c : UInt8) : (Nat → UInt32) × List UInt8 :=
  if (s.2 ++ [c]).length = 64 then (fullH K s.1 (s.2 ++ [c]), []) else (s.1, s.2 ++ [c])
def tks (K : Nat → UInt32) (s : (Nat → UInt32) × List UInt8) (bl : List UInt8) : (Nat → UInt32) × List UInt8 := bl.foldl (tk K) s
theorem tks_snoc (K : Nat → UInt32) (s : (Nat → UInt32) × List UInt8) (l : List UInt8) (c : UInt8) : tks K s (l ++ [c]) = tk K (tks K s l) c := by simp [tks]
theorem tks_app (K : Nat → UInt32) (s : (Nat → UInt32) × List UInt8) (l m : List UInt8) : tks K s (l ++ m) = tks K (tks K s l) m := by simp [tks]
theorem tk_lt (K : Nat → UInt32) (s : (Nat → UInt32) × List UInt8) (c : UInt8) (h : s.2.length < 64) : (tk K s c).2.length < 64 := by
  unfold tk
  split
  · simp
  · rename_i h1; simp at h1 ⊢; omega
theorem tks_lt (K : Nat → UInt32) (s : (Nat → UInt32) × List UInt8) (h : s.2.length < 64) (l : List UInt8) : (tks K s l).2.length < 64 := by
  induction l generalizing s with
  | nil => exact h
  | cons c l ih => exact ih (tk K s c) (tk_lt K s c h)
theorem take_snoc {l : List UInt8} {k : Nat} (h : k < l.length) : l.take (k + 1) = l.take k ++ [l[k]] := by rw [List.take_succ_eq_append_getElem h]
def TakePost (bd : Nat) (sv wv : Value) (K : Nat → UInt32) (s : (Nat → UInt32) × List UInt8) (n : UInt64) (bl : List UInt8) (w0 : World) (e : Ending) (w : World) : Prop :=
  e = .returned (.tuple #[]) ∧ Fr (fun b => b = bd ∨ wv.ownBlock = some b) w0 w ∧ ∃ wv', Bk w bd 132 (dg sv (tks K s bl).1 wv' (n + UInt64.ofNat bl.length)) ∧ Rw w wv' 5 1 (bs8 (tks K s bl).2) ∧
    (∀ b, wv'.ownBlock = some b → wv.ownBlock = some b ∨ w0.heap.size ≤ b)

set_option maxHeartbeats 1000000 in
set_option maxRecDepth 100000 in
theorem take_c (bd bs m c : Nat) (A : Option Addr) (K : Nat → UInt32) (s : (Nat → UInt32) × List UInt8) (wv : Value) (n : UInt64) (bl : List UInt8) (w0 : World) (hd : Bk w0 bd 132 (dg (.pointer (some ⟨bs, 0, none⟩)) s.1 wv n))
    (hw : Rw w0 wv 5 1 (bs8 s.2)) (hs : s.2.length < 64)
    (hK : ∀ j u, (cells 64 K)[j]? = some u → w0.cell? ⟨bs, 0 + 8 + j, none⟩ = some u) (hbs : ¬ (bs = bd ∨ wv.ownBlock = some bs)) (hb : Rs w0 (.slice A m c) 1 (bs8 bl)) (hm : m = bl.length) (hA : 0 < bl.length → ∀ a, A = some a → ¬ (a.block = bd ∨ wv.ownBlock = some a.block)) :
    Calls Try.prog 80 #[.pointer (some ⟨bd, 0, none⟩), .slice A m c] w0 (TakePost bd (.pointer (some ⟨bs, 0, none⟩)) wv K s n bl w0) := by
  have hmx : m ≤ 9223372036854775807 := by have := hb.len; simp only [maxLen] at this; omega
  refine calls_of_WC (args := [.pointer (some ⟨bd, 0, none⟩), .slice A m c]) Try.func80 rfl Try.ntmps80 rfl ?_
  show WC _ _ _ _ [(0, .pointer (some ⟨bd, 0, none⟩)), (1, .slice A m c)] _
  have hS : ST w0 (fun b => b = bd ∨ wv.ownBlock = some b) w0 [.blk bd 132 (dg (.pointer (some ⟨bs, 0, none⟩)) s.1 wv n), .row wv 5 1 (bs8 s.2)] := ST.both hd hw (fun b hb => .inl (by simpa [Ent.block] using hb.symm)) (fun b hb => .inr hb) (fun b hb => by have := hw.ne hd (by decide); simp [Ent.block] at hb; subst hb; exact this)
  refine WC.seq ?_
  refine WC.seq ?_
  refine WC.region ?_
  refine WL.pv (pv_move rfl) rfl ?_
  refine WL.pv (pv_len slS_22 rfl) rfl ?_
  refine WL.pv (pv_move rfl) rfl ?_
  refine WL.nil ?_
  refine QN.thenW ?_
  refine WC.block ?_
  refine WC.loop (α := Nat) (fun k => [(0, .pointer (some ⟨bd, 0, none⟩)), (1, .slice A m c), (6, .slice A m c), (7, .int .i64 (m : Int)), (8, .int .i64 (k : Int))]) (fun k w => k ≤ m ∧ ∃ v, ST w0 (fun b => b = bd ∨ wv.ownBlock = some b) w [.blk bd 132 (dg (.pointer (some ⟨bs, 0, none⟩)) (tks K s (bl.take k)).1 v n), .row v 5 1 (bs8 (tks K s (bl.take k)).2)]) (fun k => m - k) (0) (Sub.cons rfl (Sub.cons rfl (Sub.cons rfl (Sub.cons rfl (Sub.cons rfl Sub.nil))))) ⟨by omega, wv, hS⟩ ?_
  rintro k w N hN hR
  obtain ⟨hk, v, hS⟩ := hR
  refine WC.seq ?_
  refine WC.region ?_
  refine WL.pv (pv_lss rfl rfl) rfl ?_
  refine WL.nil ?_
  refine QN.thenW ?_
  refine WC.seq ?_
  refine WC.condD rfl (fun hc9 => ?_) (fun hc9 => ?_)
  · skip
    have hkm : k < m := by omega
    obtain ⟨bb, o, rfl, _, hc1, hc2, hcell⟩ := hb.at_ (by rw [bs8_len]; omega)
    have hbb := hA (by omega) _ rfl
    have hlt := tks_lt K s hs (bl.take k)
    have hsn := tks_snoc K s (bl.take k) (bl[k]'(by omega))
    rw [← take_snoc (by omega)] at hsn
    generalize hT : tks K s (bl.take k) = T at hS hlt hsn
    obtain ⟨H, wt⟩ := T
    generalize hcc : bl[k]'(by omega) = ch at hsn
    refine WC.skip ?_
    refine QN.thenW ?_
    refine WC.seq ?_
    refine WC.block ?_
    refine WC.seq ?_
    refine WC.region ?_
    refine WL.pv (pv_indexAddrS1 slT_22 rfl rfl rfl (by omega)) rfl ?_
    refine WL.rv (rv_load oneT_5 rfl (hS.fr.cellS (hcell k _ (by rw [bs8_at (by omega), hcc])) (by simpa using hbb))) rfl ?_
    refine WL.pv (pv_assign rfl) rfl ?_
    refine WL.nil ?_
    refine QN.thenW ?_
    refine WC.seq ?_
    refine WC.region ?_
    refine WL.pv (pv_move rfl) rfl ?_
    refine WL.pv (pv_move rfl) rfl ?_
    refine WL.pv (pv_nil rfl) rfl ?_
    refine WL.pv (pv_fieldAddrZ fldT_132_2 rfl) rfl ?_
    refine WL.rv (rv_load_blk (k := 0) hS oneT_22 rfl rfl rfl) rfl ?_
    refine WL.pv (pv_move rfl) rfl ?_
    refine WL.build1 hS slT_22 zeroT_5 rfl rfl rfl rfl ?_
    intro b18 w hb18 hS
    refine WL.append (k := 2) (N := 65536) hS slT_22 zlenT_5 (by decide) rfl rfl rfl ((hS.bk (k := 0) rfl).rs 0 1 1 1 (by omega) (by simp [maxLen]) (by simp)) (by simp [Value.oneCell']) (by simp only [bs8_len, List.drop_zero, List.length_take, List.length_cons, List.length_nil]; simp only at hlt; omega) (by omega) (by simp [maxLen]) rfl ?_
    intro v1 w hFr19 hS
    try simp only [List.set] at hS
    rw [show List.take (1 * 1) (List.drop 0 [b8 ch]) = [b8 ch] from rfl, bs8_snoc] at hS
    obtain ⟨g, m1, cap, rfl, hm1, hcap, hmx⟩ := (hS.rw_ (k := 2) rfl).form8 (by simp)
    refine WL.pv (pv_nil rfl) rfl ?_
    refine WL.pv (pv_fieldAddrZ fldT_132_2 rfl) rfl ?_
    refine WL.store (k := 1) hS sizeT_22 rfl rfl rfl rfl (by rw [dg_len]; omega) ?_
    intro w hS
    try simp only [List.set] at hS
    replace hS := hS.erase 0
    simp only [List.eraseIdx_zero, List.tail_cons] at hS
    change ST w0 _ w [Ent.blk bd 132 (dg (.pointer (some ⟨bs, 0, none⟩)) H (.slice (some ⟨g, 0, none⟩) m1 cap) n), _] at hS
    refine WL.nil ?_
    refine QN.thenW ?_
    refine WC.seq ?_
    refine WC.region ?_
    refine WL.pv (pv_move rfl) rfl ?_
    refine WL.pv (pv_nil rfl) rfl ?_
    refine WL.pv (pv_fieldAddrZ fldT_132_2 rfl) rfl ?_
    refine WL.rv (rv_load_blk (k := 0) hS oneT_22 rfl rfl rfl) rfl ?_
    refine WL.pv (pv_len slS_22 rfl) rfl ?_
    refine WL.pv (pv_eql rfl rfl) rfl ?_
    refine WL.nil ?_
    refine QN.thenW ?_
    refine WC.condD rfl (fun hc27 => ?_) (fun hc27 => ?_)
    · skip
      obtain rfl : m1 = 64 := by omega
      have h64 : (wt ++ [ch]).length = 64 := by omega
      have hgd : ¬ g = bd := fun e => (hS.sep' (i := 0) (j := 1) rfl rfl (by omega) (b := bd) rfl) (by simp [Ent.block, Value.ownBlock, e])
      have hKg : ∀ j u, (cells 64 K)[j]? = some u → w.cell? ⟨bs, 0 + 8 + j, none⟩ = some u := fun j u hu => hS.fr.cellS (hK j u hu) hbs
      refine WC.seq ?_
      refine WC.region ?_
      refine WL.pv (pv_move rfl) rfl ?_
      refine WL.pv (pv_move rfl) rfl ?_
      refine WL.pv (pv_nil rfl) rfl ?_
      refine WL.pv (pv_fieldAddrZ fldT_132_2 rfl) rfl ?_
      refine WL.rv (rv_load_blk (k := 0) hS oneT_22 rfl rfl rfl) rfl ?_
      refine WL.call (args := [.tmp 28, .tmp 32]) cf_101 rfl rfl (full_c bd bs cap (some ⟨g, 0, none⟩) K H _ n (wt ++ [ch]) _ (hS.bk (k := 0) rfl) hKg (fun e => hbs (.inl e)) (hS.rw_ (k := 1) rfl).rs h64 (fun a ha => by injection ha with ha; subst ha; exact hgd)) ?_
      rintro _ w ⟨rfl, hF, hB⟩
      refine ⟨_, rfl, ?_⟩
      replace hS := hS.updB (k := 0) rfl hF hB
      simp only [List.set] at hS
      refine WL.nil ?_
      refine QN.thenW ?_
      refine WC.region ?_
      refine WL.pv (pv_move rfl) rfl ?_
      refine WL.pv (pv_move rfl) rfl ?_
      refine WL.pv (pv_nil rfl) rfl ?_
      refine WL.pv (pv_fieldAddrZ fldT_132_2 rfl) rfl ?_
      refine WL.rv (rv_load_blk (k := 0) hS oneT_22 rfl rfl rfl) rfl ?_
      refine WL.pv (pv_sliceH (b := 0) slT_22 rfl rfl rfl (by omega)) rfl ?_
      refine WL.pv (pv_nil rfl) rfl ?_
      refine WL.pv (pv_fieldAddrZ fldT_132_2 rfl) rfl ?_
      refine WL.store (k := 0) hS sizeT_22 rfl rfl rfl rfl (by rw [dg_len]; omega) ?_
      intro w hS
      try simp only [List.set] at hS
      replace hS := hS.cut0 (k := 1) rfl
      simp only [List.set] at hS
      change ST w0 _ w [Ent.blk bd 132 (dg (.pointer (some ⟨bs, 0, none⟩)) (fullH K H (wt ++ [ch])) (.slice (some ⟨g, 0, none⟩) 0 cap) n), _] at hS
      have e1 : tks K s (bl.take (k + 1)) = (fullH K H (wt ++ [ch]), []) := by rw [hsn, tk, if_pos h64]
      rw [show fullH K H (wt ++ [ch]) = (tks K s (bl.take (k + 1))).1 from by rw [e1], ← bs8_nil, show ([] : List UInt8) = (tks K s (bl.take (k + 1))).2 from by rw [e1]] at hS
      refine WL.nil ?_
      refine QN.blockN ?_
      refine QN.thenW ?_
      first
        | (have e1 : tks K s (bl.take (k + 1)) = (H, wt ++ [ch]) := by rw [hsn, tk, if_neg h64]
           change ST w0 _ w [Ent.blk bd 132 (dg (.pointer (some ⟨bs, 0, none⟩)) (H, wt ++ [ch]).1 _ n), Ent.row _ 5 1 (bs8 (H, wt ++ [ch]).2)] at hS
           rw [← e1] at hS)
        | skip
      refine WC.region ?_
      refine WL.pv (pv_add rfl rfl (by omega)) rfl ?_
      refine WL.pv (pv_move rfl) rfl ?_
      refine WL.nil ?_
      refine QN.roundE ?_
      refine ⟨(k + 1), (Sub.cons rfl (Sub.cons rfl (Sub.cons rfl (Sub.cons rfl (Sub.cons rfl Sub.nil))))), ⟨by omega, _, hS⟩, ?_⟩
      first | omega | (dsimp only; omega)
    · skip
      have h64 : ¬ (wt ++ [ch]).length = 64 := by omega
      refine WC.skip ?_
      refine QN.blockN ?_
      refine QN.thenW ?_
      first
        | (have e1 : tks K s (bl.take (k + 1)) = (H, wt ++ [ch]) := by rw [hsn, tk, if_neg h64]
           change ST w0 _ w [Ent.blk bd 132 (dg (.pointer (some ⟨bs, 0, none⟩)) (H, wt ++ [ch]).1 _ n), Ent.row _ 5 1 (bs8 (H, wt ++ [ch]).2)] at hS
           rw [← e1] at hS)
        | skip
      refine WC.region ?_
      refine WL.pv (pv_add rfl rfl (by omega)) rfl ?_
      refine WL.pv (pv_move rfl) rfl ?_
      refine WL.nil ?_
      refine QN.roundE ?_
      refine ⟨(k + 1), (Sub.cons rfl (Sub.cons rfl (Sub.cons rfl (Sub.cons rfl (Sub.cons rfl Sub.nil))))), ⟨by omega, _, hS⟩, ?_⟩
      first | omega | (dsimp only; omega)
  · skip
    obtain rfl : k = m := by omega
    refine WC.exit ?_
    refine QN.thenX ?_
    refine QN.thenX ?_
    refine QN.blockX ?_
    refine QN.thenW ?_
    refine WC.region ?_
    refine WL.pv (pv_move rfl) rfl ?_
    refine WL.pv (pv_nil rfl) rfl ?_
    refine WL.pv (pv_fieldAddrZ fldT_132_3 rfl) rfl ?_
    refine WL.rv (rv_load_blk (k := 0) hS oneT_86 rfl rfl rfl) rfl ?_
    refine WL.pv (pv_move rfl) rfl ?_
    refine WL.pv (pv_len slS_22 rfl) rfl ?_
    refine WL.pv (pv_conv someT_3 Try.underlying86 rfl (cv_i_64 _)) rfl ?_
    refine WL.pv (pv_add64 rfl rfl) rfl ?_
    refine WL.pv (pv_nil rfl) rfl ?_
    refine WL.pv (pv_fieldAddrZ fldT_132_3 rfl) rfl ?_
    refine WL.store (k := 0) hS sizeT_86 rfl rfl rfl rfl (by rw [dg_len]; omega) ?_
    intro w hS
    try simp only [List.set] at hS
    refine WL.nil ?_
    refine QN.end0 rfl ?_
    have hw' := hS.rw_ (k := 1) rfl
    have hd' := hS.bk (k := 0) rfl
    refine ⟨rfl, hS.fr, v, ?_, ?_, ?_⟩
    · rw [List.take_of_length_le (by omega), hm] at hd'; exact hd'
    · rw [List.take_of_length_le (by omega)] at hw'; exact hw'
    · intro b hb'
      rcases hS.own' (i := 1) rfl hb' with h | h | h
      · exact .inr h
      · exact absurd hb' (hS.sep' (i := 0) (j := 1) rfl rfl (by omega) (b := b) (by rw [h]; rfl))
      · exact .inl h

end Go.Proofs.Ytjcebkhhgdgohaa
namespace Go.Proofs.Ytjcebkhhgdgohaa
open Go Go.RowKit Go.Eng
theorem aggT_25 : aggT Try.prog 25 = some 32 := by kernel_rfl
theorem arrT_158 : arrT Try.prog 158 = some (8, 1) := by kernel_rfl
theorem arrT_25 : arrT Try.prog 25 = some (32, 1) := by kernel_rfl
theorem cf_102 : callable Try.prog 102 = true := by kernel_rfl
theorem cf_80 : callable Try.prog 80 = true := by kernel_rfl
theorem sizeT_25 : sizeT Try.prog 25 = some 32 := by kernel_rfl
theorem sizeT_5 : sizeT Try.prog 5 = some 1 := by kernel_rfl
theorem someT_86 : (Try.prog.underlying 86).isSome = true := by kernel_rfl
theorem someT_91 : (Try.prog.underlying 91).isSome = true := by kernel_rfl
theorem zeroT_158 : zeroT Try.prog 158 = some (List.replicate 8 (b8 0)) := by kernel_rfl
theorem zeroT_25 : zeroT Try.prog 25 = some (List.replicate 32 (b8 0)) := by kernel_rfl

/-- A row of bytes on its way: the first k are f's. -/
def fillB (f : Nat → UInt8) (N k : Nat) : List UInt8 := (List.range N).map fun j => if j < k then f j else 0
theorem fillB_len (f : Nat → UInt8) (N k : Nat) : (fillB f N k).length = N := by simp [fillB]
theorem fillB_zero (f : Nat → UInt8) (N : Nat) : fillB f N 0 = List.replicate N 0 := by
  apply List.ext_getElem <;> simp [fillB]
theorem fillB_all (f : Nat → UInt8) (N : Nat) : fillB f N N = (List.range N).map f := by
  apply List.ext_getElem
  · simp [fillB]
  · intro i h1 h2; simp [fillB] at h1 ⊢; omega
theorem fillB_set (f : Nat → UInt8) {N k : Nat} : (fillB f N k).set k (f k) = fillB f N (k + 1) := by
  apply List.ext_getElem
  · simp [fillB]
  · intro i h1 h2
    simp only [fillB, List.getElem_set, List.getElem_map, List.getElem_range]
    by_cases h : k = i
    · subst h; simp
    · rw [if_neg h]
      by_cases h3 : i < k
      · rw [if_pos h3, if_pos (by omega)]
      · rw [if_neg h3, if_neg (by omega)]
theorem bs8_rep (n : Nat) : List.replicate n (b8 0) = bs8 (List.replicate n 0) := by simp [bs8]
def tailB (n : UInt64) : List UInt8 := (List.range 8).map fun i => (rotl64 n (8 * (i + 1))).toUInt8
def outB (h : Nat → UInt32) : List UInt8 := (List.range 32).map fun i => (rotl (h (i / 4)) (8 * (i % 4 + 1))).toUInt8
theorem tks_len (K : Nat → UInt32) (s : (Nat → UInt32) × List UInt8) (hs : s.2.length < 64) (l : List UInt8) : (tks K s l).2.length = (s.2.length + l.length) % 64 := by
  induction l generalizing s with
  | nil => simp [tks]; omega
  | cons c l ih =>
    have h := ih (tk K s c) (tk_lt K s c hs)
    have e : tks K s (c :: l) = tks K (tk K s c) l := by simp [tks]
    rw [e, h]
    have h2 : (tk K s c).2.length = (s.2.length + 1) % 64 := by
      unfold tk
      split
      · rename_i h1; simp at h1; simp [h1]
      · rename_i h1; simp at h1 ⊢; omega
    rw [h2]; simp; omega
/-- The zeros behind the mark. -/
def zeroN (K : Nat → UInt32) (s : (Nat → UInt32) × List UInt8) : Nat := (120 - (tks K s [128]).2.length) % 64
def finK (K : Nat → UInt32) (s : (Nat → UInt32) × List UInt8) (n : UInt64) : List UInt8 :=
  outB (tks K (tks K (tks K s [128]) (List.replicate (zeroN K s) 0)) (tailB n)).1
def EndPost (bd : Nat) (wv : Value) (K : Nat → UInt32) (s : (Nat → UInt32) × List UInt8) (n : UInt64) (w0 : World) (e : Ending) (w : World) : Prop :=
  e = .returned (.agg (bs8 (finK K s (n * 8))).toArray) ∧ Fr (fun b => b = bd ∨ wv.ownBlock = some b) w0 w

set_option maxHeartbeats 1000000 in
set_option maxRecDepth 100000 in
theorem end_c (bd bs : Nat) (K : Nat → UInt32) (s : (Nat → UInt32) × List UInt8) (wv : Value) (n : UInt64) (w0 : World) (hd : Bk w0 bd 132 (dg (.pointer (some ⟨bs, 0, none⟩)) s.1 wv n))
    (hw : Rw w0 wv 5 1 (bs8 s.2)) (hs : s.2.length < 64)
    (hK : ∀ j u, (cells 64 K)[j]? = some u → w0.cell? ⟨bs, 0 + 8 + j, none⟩ = some u) (hbs : ¬ (bs = bd ∨ wv.ownBlock = some bs)) :
    Calls Try.prog 81 #[.pointer (some ⟨bd, 0, none⟩)] w0 (EndPost bd wv K s n w0) := by
  have hbsl : bs < w0.heap.size := World.block_lt_of_cell? w0 _ (hK 0 _ (cells_at K (by omega)))
  have hbs3 : ∀ {b : Nat} {v : Value}, (b = bd ∨ v.ownBlock = some b) → ¬ b = bd → (v.ownBlock = some b → w0.heap.size ≤ b ∨ (b = bd ∨ wv.ownBlock = some b)) → b = bs → False := fun h h1 h2 h3 => by
    subst h3
    rcases h with h | h
    · exact h1 h
    · rcases h2 h with h4 | h4
      · omega
      · exact hbs h4
  refine calls_of_WC (args := [.pointer (some ⟨bd, 0, none⟩)]) Try.func81 rfl Try.ntmps81 rfl ?_
  show WC _ _ _ _ [(0, .pointer (some ⟨bd, 0, none⟩))] _
  have hS : ST w0 (fun b => b = bd ∨ wv.ownBlock = some b) w0 [.blk bd 132 (dg (.pointer (some ⟨bs, 0, none⟩)) s.1 wv n), .row wv 5 1 (bs8 s.2)] := ST.both hd hw (fun b hb => .inl (by simpa [Ent.block] using hb.symm)) (fun b hb => .inr hb) (fun b hb => by have := hw.ne hd (by decide); simp [Ent.block] at hb; subst hb; exact this)
  refine WC.seq ?_
  refine WC.region ?_
  refine WL.alloc hS zeroT_25 rfl ?_
  intro b2 w hb2 hS
  refine WL.nil ?_
  refine QN.thenW ?_
  refine WC.seq ?_
  refine WC.region ?_
  refine WL.pv (pv_move rfl) rfl ?_
  refine WL.pv (pv_nil rfl) rfl ?_
  refine WL.pv (pv_fieldAddrZ fldT_132_3 rfl) rfl ?_
  refine WL.rv (rv_load_blk (k := 1) hS oneT_86 rfl rfl rfl) rfl ?_
  refine WL.pv (pv_mul64 (b := 8) rfl rfl) rfl ?_
  refine WL.pv (pv_assign rfl) rfl ?_
  refine WL.nil ?_
  refine QN.thenW ?_
  refine WC.seq ?_
  refine WC.region ?_
  refine WL.pv (pv_move rfl) rfl ?_
  refine WL.build1 (v := b8 128) hS slT_22 zeroT_5 rfl rfl rfl rfl ?_
  intro b14 w hb14 hS
  refine WL.call (args := [.tmp 13, .tmp 14]) cf_80 rfl rfl (take_c bd bs 1 1 (some ⟨b14, 0, none⟩) K s _ _ [128] _ (hS.bk (k := 2) rfl) (hS.rw_ (k := 3) rfl) hs (fun j u hu => hS.fr.cellS (hK j u hu) hbs) hbs ((hS.bk (k := 0) rfl).rs 0 1 1 1 (by omega) (by simp [maxLen]) (by simp)) rfl (fun _ a ha => by injection ha with ha; subst ha; exact hap (k := 0) (i := 2) (j := 3) hS rfl rfl rfl (by omega) (by omega))) ?_
  rintro _ w ⟨rfl, hF, v1, hB, hR, hbl⟩
  refine ⟨_, rfl, ?_⟩
  replace hS := (hS.upd2 (i := 2) (j := 3) rfl rfl hF hB hR hbl).erase 0
  simp only [List.set, List.eraseIdx_zero, List.tail_cons] at hS
  refine WL.nil ?_
  refine QN.thenW ?_
  refine WC.seq ?_
  refine WC.block ?_
  refine WC.loop (α := Nat) (fun j => [(0, .pointer (some ⟨bd, 0, none⟩)), (2, .pointer (some ⟨b2, 0, none⟩)), (3, w64 (n * 8))]) (fun j w => j ≤ zeroN K s ∧ ∃ v n1, ST w0 (fun b => b = bd ∨ wv.ownBlock = some b) w [.blk b2 25 (List.replicate 32 (b8 0)), .blk bd 132 (dg (.pointer (some ⟨bs, 0, none⟩)) (tks K (tks K s [128]) (List.replicate j 0)).1 v n1), .row v 5 1 (bs8 (tks K (tks K s [128]) (List.replicate j 0)).2)]) (fun j => zeroN K s - j) (0) (Sub.cons rfl (Sub.cons rfl (Sub.cons rfl Sub.nil))) ⟨by omega, v1, _, hS⟩ ?_
  rintro j w N hN hR
  obtain ⟨hj, v, n1, hS⟩ := hR
  obtain ⟨A, m, cp, rfl, hm, _, hmx⟩ := (hS.rw_ (k := 2) rfl).anyForm
  have hln := tks_len K (tks K s [128]) (tks_lt K s hs _) (List.replicate j 0)
  rw [bs8_len, Nat.mul_one] at hm
  rw [List.length_replicate, hm] at hln
  have hlt := tks_lt K s hs [128]
  have hz : zeroN K s = (120 - (tks K s [128]).2.length) % 64 := rfl
  refine WC.seq ?_
  refine WC.seq ?_
  refine WC.region ?_
  refine WL.pv (pv_move rfl) rfl ?_
  refine WL.pv (pv_nil rfl) rfl ?_
  refine WL.pv (pv_fieldAddrZ fldT_132_2 rfl) rfl ?_
  refine WL.rv (rv_load_blk (k := 1) hS oneT_22 rfl rfl rfl) rfl ?_
  refine WL.pv (pv_len slS_22 rfl) rfl ?_
  refine WL.pv (pv_neq rfl rfl) rfl ?_
  refine WL.nil ?_
  refine QN.thenW ?_
  refine WC.condD rfl (fun hc21 => ?_) (fun hc21 => ?_)
  · skip
    have hjz : j < zeroN K s := by omega
    refine WC.skip ?_
    refine QN.thenW ?_
    refine WC.block ?_
    refine WC.region ?_
    refine WL.pv (pv_move rfl) rfl ?_
    refine WL.build1 (v := b8 0) hS slT_22 zeroT_5 rfl rfl rfl rfl ?_
    intro b23 w hb23 hS
    refine WL.call (args := [.tmp 22, .tmp 23]) cf_80 rfl rfl (take_c bd bs 1 1 (some ⟨b23, 0, none⟩) K (tks K (tks K s [128]) (List.replicate j 0)) _ n1 [0] _ (hS.bk (k := 2) rfl) (hS.rw_ (k := 3) rfl) (tks_lt K _ (tks_lt K s hs _) _) (fun j u hu => hS.fr.cellS (hK j u hu) hbs) (fun e => hbs3 (b := bs) e (fun h => hbs (.inl h)) (fun h => hS.own' (i := 3) rfl h) rfl) ((hS.bk (k := 0) rfl).rs 0 1 1 1 (by omega) (by simp [maxLen]) (by simp)) rfl (fun _ a ha => by injection ha with ha; subst ha; exact hap (k := 0) (i := 2) (j := 3) hS rfl rfl rfl (by omega) (by omega))) ?_
    rintro _ w ⟨rfl, hF, v2, hB, hR, hbl⟩
    refine ⟨_, rfl, ?_⟩
    replace hS := (hS.upd2 (i := 2) (j := 3) rfl rfl hF hB hR hbl).erase 0
    simp only [List.set, List.eraseIdx_zero, List.tail_cons] at hS
    rw [← tks_app, ← List.replicate_succ'] at hS
    refine WL.nil ?_
    refine QN.blockN ?_
    refine QN.roundE ?_
    refine ⟨(j + 1), (Sub.cons rfl (Sub.cons rfl (Sub.cons rfl Sub.nil))), ⟨by omega, _, _, hS⟩, ?_⟩
    first | omega | (dsimp only; omega)
  · skip
    obtain rfl : j = zeroN K s := by omega
    refine WC.exit ?_
    refine QN.thenX ?_
    refine QN.thenX ?_
    refine QN.blockX ?_
    refine QN.thenW ?_
    refine WC.seq ?_
    refine WC.region ?_
    refine WL.alloc hS zeroT_158 rfl ?_
    intro b4 w hb4 hS
    rw [bs8_rep, ← fillB_zero (fun i => (rotl64 (n * 8) (8 * (i + 1))).toUInt8) 8] at hS
    generalize hS2 : tks K (tks K s [128]) (List.replicate (zeroN K s) 0) = S2 at hS
    refine WL.nil ?_
    refine QN.thenW ?_
    refine WC.seq ?_
    refine WC.seq ?_
    refine WC.region ?_
    refine WL.pv (pv_move rfl) rfl ?_
    refine WL.nil ?_
    refine QN.thenW ?_
    refine WC.block ?_
    refine WC.loop (α := Nat) (fun k => [(0, .pointer (some ⟨bd, 0, none⟩)), (2, .pointer (some ⟨b2, 0, none⟩)), (3, w64 (n * 8)), (4, .pointer (some ⟨b4, 0, none⟩)), (25, .int .i64 (k : Int))]) (fun k w => k ≤ 8 ∧ ST w0 (fun b => b = bd ∨ wv.ownBlock = some b) w [.blk b4 158 (bs8 (fillB (fun i => (rotl64 (n * 8) (8 * (i + 1))).toUInt8) 8 k)), .blk b2 25 (List.replicate 32 (b8 0)), .blk bd 132 (dg (.pointer (some ⟨bs, 0, none⟩)) S2.1 (.slice A m cp) n1), .row (.slice A m cp) 5 1 (bs8 S2.2)]) (fun k => 8 - k) (0) (Sub.cons rfl (Sub.cons rfl (Sub.cons rfl (Sub.cons rfl (Sub.cons rfl Sub.nil))))) ⟨by omega, hS⟩ ?_
    rintro k w N hN hR
    obtain ⟨hk, hS⟩ := hR
    refine WC.seq ?_
    refine WC.region ?_
    refine WL.pv (pv_lss rfl rfl) rfl ?_
    refine WL.nil ?_
    refine QN.thenW ?_
    refine WC.seq ?_
    refine WC.condD rfl (fun hc26 => ?_) (fun hc26 => ?_)
    · skip
      have hk8 : k < 8 := by omega
      refine WC.skip ?_
      refine QN.thenW ?_
      refine WC.seq ?_
      refine WC.block ?_
      refine WC.seq ?_
      refine WC.region ?_
      refine WL.pv (pv_move rfl) rfl ?_
      refine WL.pv (pv_assign rfl) rfl ?_
      refine WL.nil ?_
      refine QN.thenW ?_
      refine WC.region ?_
      refine WL.pv (pv_move rfl) rfl ?_
      refine WL.pv (pv_move rfl) rfl ?_
      refine WL.pv (pv_move rfl) rfl ?_
      refine WL.pv (pv_add rfl rfl (by omega)) rfl ?_
      refine WL.pv (pv_mul rfl rfl (by omega)) rfl ?_
      refine WL.call (args := [.tmp 29, .tmp 32]) cf_102 rfl rfl (rotl64_c _ (8 * (k + 1)) _ (by omega)) ?_
      rintro _ _ ⟨rfl, rfl⟩
      refine ⟨_, rfl, ?_⟩
      refine WL.pv (pv_conv someT_86 Try.underlying5 rfl (cv_64_8 _)) rfl ?_
      refine WL.pv (pv_indexAddrA1Z arrT_158 rfl rfl rfl (by omega)) rfl ?_
      refine WL.store (k := 0) hS sizeT_5 rfl rfl rfl rfl (by rw [bs8_len, fillB_len]; omega) ?_
      intro w hS
      try simp only [List.set] at hS
      rw [bs8_set, fillB_set] at hS
      refine WL.nil ?_
      refine QN.blockN ?_
      refine QN.thenW ?_
      refine WC.region ?_
      refine WL.pv (pv_add rfl rfl (by omega)) rfl ?_
      refine WL.pv (pv_move rfl) rfl ?_
      refine WL.nil ?_
      refine QN.roundE ?_
      refine ⟨(k + 1), (Sub.cons rfl (Sub.cons rfl (Sub.cons rfl (Sub.cons rfl (Sub.cons rfl Sub.nil))))), ⟨by omega, hS⟩, ?_⟩
      first | omega | (dsimp only; omega)
    · skip
      obtain rfl : k = 8 := by omega
      refine WC.exit ?_
      refine QN.thenX ?_
      refine QN.thenX ?_
      refine QN.blockX ?_
      refine QN.thenW ?_
      refine WC.seq ?_
      refine WC.region ?_
      refine WL.pv (pv_move rfl) rfl ?_
      refine WL.pv (pv_sliceW arrT_158 rfl) rfl ?_
      rw [fillB_all] at hS
      refine WL.call (args := [.tmp 37, .tmp 38]) cf_80 rfl rfl (take_c bd bs 8 8 (some ⟨b4, 0, none⟩) K S2 _ n1 (tailB (n * 8)) _ (hS.bk (k := 2) rfl) (hS.rw_ (k := 3) rfl) (by rw [← hS2]; exact tks_lt K _ (tks_lt K s hs _) _) (fun j u hu => hS.fr.cellS (hK j u hu) hbs) (fun e => hbs3 (b := bs) e (fun h => hbs (.inl h)) (fun h => hS.own' (i := 3) rfl h) rfl) ((hS.bk (k := 0) rfl).rs 0 8 8 1 (by omega) (by simp [maxLen]) (by simp [bs8_len])) (by simp [tailB]) (fun _ a ha => by injection ha with ha; subst ha; exact hap (k := 0) (i := 2) (j := 3) hS rfl rfl rfl (by omega) (by omega))) ?_
      rintro _ w ⟨rfl, hF, v2, hB, hR, hbl⟩
      refine ⟨_, rfl, ?_⟩
      replace hS := (hS.upd2 (i := 2) (j := 3) rfl rfl hF hB hR hbl).erase 0
      simp only [List.set, List.eraseIdx_zero, List.tail_cons] at hS
      generalize hS3 : tks K S2 (tailB (n * 8)) = S3 at hS
      refine WL.nil ?_
      refine QN.thenW ?_
      refine WC.seq ?_
      refine WC.region ?_
      refine WL.alloc hS zeroT_25 rfl ?_
      intro b6 w hb6 hS
      rw [bs8_rep, ← fillB_zero (fun i => (rotl (S3.1 (i / 4)) (8 * (i % 4 + 1))).toUInt8) 32] at hS
      refine WL.nil ?_
      refine QN.thenW ?_
      refine WC.seq ?_
      refine WC.seq ?_
      refine WC.region ?_
      refine WL.pv (pv_move rfl) rfl ?_
      refine WL.nil ?_
      refine QN.thenW ?_
      refine WC.block ?_
      refine WC.loop (α := Nat) (fun k => [(0, .pointer (some ⟨bd, 0, none⟩)), (2, .pointer (some ⟨b2, 0, none⟩)), (6, .pointer (some ⟨b6, 0, none⟩)), (40, .int .i64 (k : Int))]) (fun k w => k ≤ 32 ∧ ∃ n2, ST w0 (fun b => b = bd ∨ wv.ownBlock = some b) w [.blk b6 25 (bs8 (fillB (fun i => (rotl (S3.1 (i / 4)) (8 * (i % 4 + 1))).toUInt8) 32 k)), .blk b2 25 (bs8 (fillB (fun i => (rotl (S3.1 (i / 4)) (8 * (i % 4 + 1))).toUInt8) 32 0)), .blk bd 132 (dg (.pointer (some ⟨bs, 0, none⟩)) S3.1 v2 n2), .row v2 5 1 (bs8 S3.2)]) (fun k => 32 - k) (0) (Sub.cons rfl (Sub.cons rfl (Sub.cons rfl (Sub.cons rfl Sub.nil)))) ⟨by omega, _, hS⟩ ?_
      rintro k w N hN hR
      obtain ⟨hk, n2, hS⟩ := hR
      refine WC.seq ?_
      refine WC.region ?_
      refine WL.pv (pv_lss rfl rfl) rfl ?_
      refine WL.nil ?_
      refine QN.thenW ?_
      refine WC.seq ?_
      refine WC.condD rfl (fun hc41 => ?_) (fun hc41 => ?_)
      · skip
        have hk8 : k < 32 := by omega
        refine WC.skip ?_
        refine QN.thenW ?_
        refine WC.seq ?_
        refine WC.block ?_
        refine WC.seq ?_
        refine WC.region ?_
        refine WL.pv (pv_move rfl) rfl ?_
        refine WL.pv (pv_assign rfl) rfl ?_
        refine WL.nil ?_
        refine QN.thenW ?_
        refine WC.region ?_
        refine WL.pv (pv_move rfl) rfl ?_
        refine WL.pv (pv_move rfl) rfl ?_
        refine WL.pv (pv_move rfl) rfl ?_
        refine WL.pv (pv_quo rfl rfl (by omega)) rfl ?_
        refine WL.pv (pv_nil rfl) rfl ?_
        refine WL.pv (pv_fieldAddrZ fldT_132_1 rfl) rfl ?_
        refine WL.pv (pv_indexAddrA1 (j := k / 4) arrT_127 rfl rfl (by omega) (by omega)) rfl ?_
        refine WL.rv (rv_load_blk (k := 2) hS oneT_91 rfl rfl (dg_at (by omega))) rfl ?_
        refine WL.pv (pv_move rfl) rfl ?_
        refine WL.pv (pv_rem rfl rfl (by omega)) rfl ?_
        refine WL.pv (pv_add rfl rfl (by omega)) rfl ?_
        refine WL.pv (pv_mul rfl rfl (by omega)) rfl ?_
        refine WL.call (args := [.tmp 50, .tmp 54]) cf_103 rfl rfl (rotl32_c _ (8 * (k % 4 + 1)) _ (by omega)) ?_
        rintro _ _ ⟨rfl, rfl⟩
        refine ⟨_, rfl, ?_⟩
        refine WL.pv (pv_conv someT_91 Try.underlying5 rfl (cv_32_8 _)) rfl ?_
        refine WL.pv (pv_indexAddrA1Z arrT_25 rfl rfl rfl (by omega)) rfl ?_
        refine WL.store (k := 0) hS sizeT_5 rfl rfl rfl rfl (by rw [bs8_len, fillB_len]; omega) ?_
        intro w hS
        try simp only [List.set] at hS
        rw [bs8_set, fillB_set (fun i => (rotl (S3.1 (i / 4)) (8 * (i % 4 + 1))).toUInt8)] at hS
        refine WL.nil ?_
        refine QN.blockN ?_
        refine QN.thenW ?_
        refine WC.region ?_
        refine WL.pv (pv_add rfl rfl (by omega)) rfl ?_
        refine WL.pv (pv_move rfl) rfl ?_
        refine WL.nil ?_
        refine QN.roundE ?_
        refine ⟨(k + 1), (Sub.cons rfl (Sub.cons rfl (Sub.cons rfl (Sub.cons rfl Sub.nil)))), ⟨by omega, _, hS⟩, ?_⟩
        first | omega | (dsimp only; omega)
      · skip
        obtain rfl : k = 32 := by omega
        refine WC.exit ?_
        refine QN.thenX ?_
        refine QN.thenX ?_
        refine QN.blockX ?_
        refine QN.thenW ?_
        refine WC.seq ?_
        refine WC.region ?_
        refine WL.rv (rv_load_all (k := 0) hS rfl rfl (by rw [aggT_25, bs8_len, fillB_len])) rfl ?_
        refine WL.storeAll (k := 1) (vs := bs8 (fillB (fun i => (rotl (S3.1 (i / 4)) (8 * (i % 4 + 1))).toUInt8) 32 32)) hS (by rw [sizeT_25, bs8_len, fillB_len]) rfl rfl rfl bs8_one (by simp [bs8_len, fillB_len]) ?_
        intro w hS
        try simp only [List.set] at hS
        refine WL.nil ?_
        refine QN.thenW ?_
        refine WC.ret ?_
        refine QN.retK (k := 1) rfl rfl hS rfl (by rw [aggT_25, bs8_len, fillB_len]) ?_
        refine ⟨?_, hS.fr⟩
        rw [finK, hS2, hS3, fillB_all]; rfl

end Go.Proofs.Ytjcebkhhgdgohaa
namespace Go.Proofs.Ytjcebkhhgdgohaa
open Go Go.RowKit Go.Eng
theorem cf_56 : callable Try.prog 56 = true := by kernel_rfl
theorem cf_79 : callable Try.prog 79 = true := by kernel_rfl
theorem cf_81 : callable Try.prog 81 = true := by kernel_rfl
theorem fldT_130_0 : fldT Try.prog 130 0 = some 0 := by kernel_rfl
theorem layT_130 : layOf Try.prog 130 = some [(0, 8), (8, 64)] := by kernel_rfl
theorem layT_132 : layOf Try.prog 132 = some [(0, 1), (1, 8), (9, 1), (10, 1)] := by kernel_rfl
theorem slS_29 : (slT Try.prog 29).isSome = true := by kernel_rfl
theorem slT_29 : slT Try.prog 29 = some (22, 1, 24) := by kernel_rfl
theorem zeroT_128 : zeroT Try.prog 128 = some (List.replicate 64 (w32 0)) := by kernel_rfl
theorem zeroT_130 : zeroT Try.prog 130 = some ((List.replicate 8 (w32 0) ++ List.replicate 64 (w32 0))) := by kernel_rfl
theorem zeroT_132 : zeroT Try.prog 132 = some (([.pointer none] ++ List.replicate 8 (w32 0) ++ [.slice none 0 0] ++ [w64 0])) := by kernel_rfl
theorem zeroT_22 : zeroT Try.prog 22 = some ([.slice none 0 0]) := by kernel_rfl

def firstL : List UInt32 := [1779033703, 3144134277, 1013904242, 2773480762, 1359893119, 2600822924, 528734635, 1541459225]
def kL : List UInt32 := [1116352408, 1899447441, 3049323471, 3921009573, 961987163, 1508970993, 2453635748, 2870763221, 3624381080, 310598401, 607225278, 1426881987, 1925078388, 2162078206, 2614888103, 3248222580, 3835390401, 4022224774, 264347078, 604807628, 770255983, 1249150122, 1555081692, 1996064986, 2554220882, 2821834349, 2952996808, 3210313671, 3336571891, 3584528711, 113926993, 338241895, 666307205, 773529912, 1294757372, 1396182291, 1695183700, 1986661051, 2177026350, 2456956037, 2730485921, 2820302411, 3259730800, 3345764771, 3516065817, 3600352804, 4094571909, 275423344, 430227734, 506948616, 659060556, 883997877, 958139571, 1322822218, 1537002063, 1747873779, 1955562222, 2024104815, 2227730452, 2361852424, 2428436474, 2756734187, 3204031479, 3329325298]
def firstW (j : Nat) : UInt32 := firstL.getD j 0
def KW (j : Nat) : UInt32 := kL.getD j 0
def AllPost (w0 : World) (e : Ending) (w : World) : Prop := ∃ bs, e = .returned (.pointer (some ⟨bs, 0, none⟩)) ∧ Fr No w0 w ∧ Bk w bs 130 (cells 8 firstW ++ cells 64 KW) ∧ w0.heap.size ≤ bs
/-- The digest of a text, by the program. -/
def shaV (m : List UInt8) : List UInt8 := finK KW (tks KW (firstW, []) m) (UInt64.ofNat m.length * 8)
theorem K_at {j : Nat} {u : Value} (h : (cells 64 KW)[j]? = some u) : (cells 8 firstW ++ cells 64 KW)[0 + 8 + j]? = some u := by
  rw [List.getElem?_append_right (by rw [cells_len]; omega), cells_len, show 0 + 8 + j - 8 = j from by omega]; exact h
theorem dg0 (bs : Nat) : dg (.pointer (some ⟨bs, 0, none⟩)) firstW (.slice none 0 0) 0 = (.pointer (some ⟨bs, 0, none⟩)) :: (cells 8 firstW ++ [.slice none 0 0, w64 0]) := rfl

set_option maxHeartbeats 2000000 in
set_option maxRecDepth 100000 in
theorem all_c (w0 : World) : Calls Try.prog 79 #[] w0 (AllPost w0) := by
  refine calls_of_WC (args := []) Try.func79 rfl Try.ntmps79 rfl ?_
  show WC _ _ _ _ [] _
  have hS := ST.start w0 No
  refine WC.seq ?_
  refine WC.region ?_
  refine WL.pv (pv_assign rfl) rfl ?_
  refine WL.nil ?_
  refine QN.thenW ?_
  refine WC.seq ?_
  refine WC.region ?_
  refine WL.pv (pv_buildA (parts := [(0, .const (.int .u32 1779033703)), (1, .const (.int .u32 3144134277)), (2, .const (.int .u32 1013904242)), (3, .const (.int .u32 2773480762)), (4, .const (.int .u32 1359893119)), (5, .const (.int .u32 2600822924)), (6, .const (.int .u32 528734635)), (7, .const (.int .u32 1541459225))]) (cells := cells 8 firstW) arrT_127 zeroT_127 rfl (by kernel_rfl)) rfl ?_
  refine WL.pv (pv_buildA (parts := [(0, .const (.int .u32 1116352408)), (1, .const (.int .u32 1899447441)), (2, .const (.int .u32 3049323471)), (3, .const (.int .u32 3921009573)), (4, .const (.int .u32 961987163)), (5, .const (.int .u32 1508970993)), (6, .const (.int .u32 2453635748)), (7, .const (.int .u32 2870763221)), (8, .const (.int .u32 3624381080)), (9, .const (.int .u32 310598401)), (10, .const (.int .u32 607225278)), (11, .const (.int .u32 1426881987)), (12, .const (.int .u32 1925078388)), (13, .const (.int .u32 2162078206)), (14, .const (.int .u32 2614888103)), (15, .const (.int .u32 3248222580)), (16, .const (.int .u32 3835390401)), (17, .const (.int .u32 4022224774)), (18, .const (.int .u32 264347078)), (19, .const (.int .u32 604807628)), (20, .const (.int .u32 770255983)), (21, .const (.int .u32 1249150122)), (22, .const (.int .u32 1555081692)), (23, .const (.int .u32 1996064986)), (24, .const (.int .u32 2554220882)), (25, .const (.int .u32 2821834349)), (26, .const (.int .u32 2952996808)), (27, .const (.int .u32 3210313671)), (28, .const (.int .u32 3336571891)), (29, .const (.int .u32 3584528711)), (30, .const (.int .u32 113926993)), (31, .const (.int .u32 338241895)), (32, .const (.int .u32 666307205)), (33, .const (.int .u32 773529912)), (34, .const (.int .u32 1294757372)), (35, .const (.int .u32 1396182291)), (36, .const (.int .u32 1695183700)), (37, .const (.int .u32 1986661051)), (38, .const (.int .u32 2177026350)), (39, .const (.int .u32 2456956037)), (40, .const (.int .u32 2730485921)), (41, .const (.int .u32 2820302411)), (42, .const (.int .u32 3259730800)), (43, .const (.int .u32 3345764771)), (44, .const (.int .u32 3516065817)), (45, .const (.int .u32 3600352804)), (46, .const (.int .u32 4094571909)), (47, .const (.int .u32 275423344)), (48, .const (.int .u32 430227734)), (49, .const (.int .u32 506948616)), (50, .const (.int .u32 659060556)), (51, .const (.int .u32 883997877)), (52, .const (.int .u32 958139571)), (53, .const (.int .u32 1322822218)), (54, .const (.int .u32 1537002063)), (55, .const (.int .u32 1747873779)), (56, .const (.int .u32 1955562222)), (57, .const (.int .u32 2024104815)), (58, .const (.int .u32 2227730452)), (59, .const (.int .u32 2361852424)), (60, .const (.int .u32 2428436474)), (61, .const (.int .u32 2756734187)), (62, .const (.int .u32 3204031479)), (63, .const (.int .u32 3329325298))]) (vs := [(0, .int .u32 1116352408), (1, .int .u32 1899447441), (2, .int .u32 3049323471), (3, .int .u32 3921009573), (4, .int .u32 961987163), (5, .int .u32 1508970993), (6, .int .u32 2453635748), (7, .int .u32 2870763221), (8, .int .u32 3624381080), (9, .int .u32 310598401), (10, .int .u32 607225278), (11, .int .u32 1426881987), (12, .int .u32 1925078388), (13, .int .u32 2162078206), (14, .int .u32 2614888103), (15, .int .u32 3248222580), (16, .int .u32 3835390401), (17, .int .u32 4022224774), (18, .int .u32 264347078), (19, .int .u32 604807628), (20, .int .u32 770255983), (21, .int .u32 1249150122), (22, .int .u32 1555081692), (23, .int .u32 1996064986), (24, .int .u32 2554220882), (25, .int .u32 2821834349), (26, .int .u32 2952996808), (27, .int .u32 3210313671), (28, .int .u32 3336571891), (29, .int .u32 3584528711), (30, .int .u32 113926993), (31, .int .u32 338241895), (32, .int .u32 666307205), (33, .int .u32 773529912), (34, .int .u32 1294757372), (35, .int .u32 1396182291), (36, .int .u32 1695183700), (37, .int .u32 1986661051), (38, .int .u32 2177026350), (39, .int .u32 2456956037), (40, .int .u32 2730485921), (41, .int .u32 2820302411), (42, .int .u32 3259730800), (43, .int .u32 3345764771), (44, .int .u32 3516065817), (45, .int .u32 3600352804), (46, .int .u32 4094571909), (47, .int .u32 275423344), (48, .int .u32 430227734), (49, .int .u32 506948616), (50, .int .u32 659060556), (51, .int .u32 883997877), (52, .int .u32 958139571), (53, .int .u32 1322822218), (54, .int .u32 1537002063), (55, .int .u32 1747873779), (56, .int .u32 1955562222), (57, .int .u32 2024104815), (58, .int .u32 2227730452), (59, .int .u32 2361852424), (60, .int .u32 2428436474), (61, .int .u32 2756734187), (62, .int .u32 3204031479), (63, .int .u32 3329325298)]) (cells := cells 64 KW) arrT_128 zeroT_128 (by kernel_rfl) (by kernel_rfl)) rfl ?_
  refine WL.pv (pv_buildS (parts := [(0, .tmp 1), (1, .tmp 2)]) (cells := cells 8 firstW ++ cells 64 KW) layT_130 zeroT_130 rfl (by kernel_rfl)) rfl ?_
  refine WL.box (vs := _) hS rfl rfl rfl ?_
  intro b4 w hb4 hS
  refine WL.pv (pv_assign rfl) rfl ?_
  refine WL.nil ?_
  refine QN.thenW ?_
  refine WC.ret ?_
  refine QN.ret1 rfl rfl ?_
  exact ⟨b4, rfl, hS.fr, hS.bk (k := 0) rfl, hb4⟩


def KeyPost (l : List UInt8) (w0 : World) (e : Ending) (w : World) : Prop := e = .returned (.agg (bs8 l).toArray) ∧ Fr No w0 w
theorem outB_len (h : Nat → UInt32) : (outB h).length = 32 := by simp [outB]
theorem shaV_len (m : List UInt8) : (shaV m).length = 32 := by simp [shaV, finK, outB_len]

set_option maxHeartbeats 1000000 in
set_option maxRecDepth 100000 in
theorem of_c (A : Option Addr) (m c : Nat) (ls : List (List UInt8)) (w0 : World) (hl : RsL w0 (.slice A m c) ls) : Calls Try.prog 56 #[.slice A m c] w0 (KeyPost (shaV ls.flatten) w0) := by
  obtain ⟨vs, hvs, hvl, hall⟩ := hl
  have hln := hvs.len
  have hmx : m ≤ 9223372036854775807 := by have := hvs.len; simp only [maxLen] at this; omega
  refine calls_of_WC (args := [.slice A m c]) Try.func56 rfl Try.ntmps56 rfl ?_
  show WC _ _ _ _ [(0, .slice A m c)] _
  have hS := ST.start w0 No
  refine WC.seq ?_
  refine WC.region ?_
  refine WL.alloc hS zeroT_25 rfl ?_
  intro b2 w hb2 hS
  refine WL.nil ?_
  refine QN.thenW ?_
  refine WC.seq ?_
  refine WC.region ?_
  refine WL.call (args := []) cf_79 rfl rfl (all_c _) ?_
  rintro _ w ⟨bs, rfl, hF, hB, hbs⟩
  refine ⟨_, rfl, ?_⟩
  replace hS := hS.add (e := .blk bs 130 _) hF hB (fun b hb => by simp only [Ent.block] at hb; injection hb with hb; omega)
  refine WL.pv (pv_assign rfl) rfl ?_
  refine WL.nil ?_
  refine QN.thenW ?_
  refine WC.seq ?_
  refine WC.region ?_
  refine WL.pv (pv_move rfl) rfl ?_
  refine WL.pv (pv_move rfl) rfl ?_
  refine WL.pv (pv_nil rfl) rfl ?_
  refine WL.pv (pv_fieldAddrZ fldT_130_0 rfl) rfl ?_
  refine WL.rv (rv_load_part (k := 0) (m := 8) hS rfl rfl aggT_127 (by simp [cells_len])) rfl ?_
  refine WL.pv (pv_buildS (parts := [(0, .tmp 8), (1, .tmp 12)]) (cells := dg (.pointer (some ⟨bs, 0, none⟩)) firstW (.slice none 0 0) 0) layT_132 zeroT_132 rfl (by kernel_rfl)) rfl ?_
  refine WL.box (vs := _) hS rfl rfl rfl ?_
  intro b14 w hb14 hS
  replace hS := hS.addNil 5 1
  refine WL.pv (pv_assign rfl) rfl ?_
  refine WL.nil ?_
  refine QN.thenW ?_
  refine WC.seq ?_
  refine WC.seq ?_
  refine WC.region ?_
  refine WL.pv (pv_move rfl) rfl ?_
  refine WL.pv (pv_len slS_29 rfl) rfl ?_
  refine WL.pv (pv_move rfl) rfl ?_
  refine WL.nil ?_
  refine QN.thenW ?_
  refine WC.block ?_
  refine WC.loop (α := Nat) (fun k => [(0, .slice A m c), (2, .pointer (some ⟨b2, 0, none⟩)), (4, .pointer (some ⟨b14, 0, none⟩)), (15, .slice A m c), (16, .int .i64 (m : Int)), (17, .int .i64 (k : Int))]) (fun k w => k ≤ m ∧ ∃ v, ST w0 No w [.row v 5 1 (bs8 (tks KW (firstW, []) (ls.take k).flatten).2), .blk b14 132 (dg (.pointer (some ⟨bs, 0, none⟩)) (tks KW (firstW, []) (ls.take k).flatten).1 v (UInt64.ofNat (ls.take k).flatten.length)), .blk bs 130 (cells 8 firstW ++ cells 64 KW), .blk b2 25 (List.replicate 32 (b8 0))]) (fun k => m - k) (0) (Sub.cons rfl (Sub.cons rfl (Sub.cons rfl (Sub.cons rfl (Sub.cons rfl (Sub.cons rfl Sub.nil)))))) ⟨by omega, _, hS⟩ ?_
  rintro k w N hN hR
  obtain ⟨hk, v, hS⟩ := hR
  refine WC.seq ?_
  refine WC.region ?_
  refine WL.pv (pv_lss rfl rfl) rfl ?_
  refine WL.nil ?_
  refine QN.thenW ?_
  refine WC.seq ?_
  refine WC.condD rfl (fun hc18 => ?_) (fun hc18 => ?_)
  · skip
    have hkm : k < m := by omega
    obtain ⟨bb, o, rfl, _, hc1, hc2, hcell⟩ := hvs.at_ (by omega)
    have hvk := hall k (by omega) (by omega)
    obtain ⟨A', n', c', hv', _, _, hl', _⟩ := id hvk
    rw [hv'] at hvk
    rw [bs8_len, Nat.mul_one] at hl' 
    refine WC.skip ?_
    refine QN.thenW ?_
    refine WC.seq ?_
    refine WC.block ?_
    refine WC.seq ?_
    refine WC.region ?_
    refine WL.pv (pv_indexAddrS1 slT_29 rfl rfl rfl (by omega)) rfl ?_
    refine WL.rv (rv_load oneT_22 rfl (hS.fr.cellS (hcell k _ (by rw [List.getElem?_eq_getElem (by omega), hv'])) (fun h => h))) rfl ?_
    refine WL.pv (pv_assign rfl) rfl ?_
    refine WL.nil ?_
    refine QN.thenW ?_
    refine WC.region ?_
    refine WL.pv (pv_move rfl) rfl ?_
    refine WL.pv (pv_move rfl) rfl ?_
    refine WL.call (args := [.tmp 21, .tmp 22]) cf_80 rfl rfl (take_c b14 bs n' c' A' KW (tks KW (firstW, []) (ls.take k).flatten) v _ (ls[k]'(by omega)) _ (hS.bk (k := 1) rfl) (hS.rw_ (k := 0) rfl) (tks_lt _ _ (by simp) _) (fun j u hu => hS.cell (k := 2) rfl (K_at hu)) (hap (k := 2) (i := 1) (j := 0) hS rfl rfl rfl (by omega) (by omega)) (hvk.no hS.fr) hl'.symm (fun h0 a ha => hold (i := 1) (j := 0) hS rfl rfl (hvk.blkLt (by rw [bs8_len]; exact h0) a ha))) ?_
    rintro _ w ⟨rfl, hF, v2, hB, hR, hbl⟩
    refine ⟨_, rfl, ?_⟩
    replace hS := hS.upd2 (i := 1) (j := 0) rfl rfl hF hB hR hbl
    simp only [List.set] at hS
    rw [← tks_app, ← UInt64.ofNat_add, ← List.length_append] at hS
    have e1 : (ls.take k).flatten ++ ls[k]'(by omega) = (ls.take (k + 1)).flatten := by rw [List.take_succ_eq_append_getElem (by omega), List.flatten_append, List.flatten_singleton]
    rw [e1] at hS
    refine WL.nil ?_
    refine QN.blockN ?_
    refine QN.thenW ?_
    refine WC.region ?_
    refine WL.pv (pv_add rfl rfl (by omega)) rfl ?_
    refine WL.pv (pv_move rfl) rfl ?_
    refine WL.nil ?_
    refine QN.roundE ?_
    refine ⟨(k + 1), (Sub.cons rfl (Sub.cons rfl (Sub.cons rfl (Sub.cons rfl (Sub.cons rfl (Sub.cons rfl Sub.nil)))))), ⟨by omega, _, hS⟩, ?_⟩
    first | omega | (dsimp only; omega)
  · skip
    obtain rfl : k = m := by omega
    refine WC.exit ?_
    refine QN.thenX ?_
    refine QN.thenX ?_
    refine QN.blockX ?_
    refine QN.thenW ?_
    refine WC.seq ?_
    refine WC.region ?_
    refine WL.pv (pv_move rfl) rfl ?_
    refine WL.call (args := [.tmp 25]) cf_81 rfl rfl (end_c b14 bs KW (tks KW (firstW, []) (ls.take k).flatten) v _ _ (hS.bk (k := 1) rfl) (hS.rw_ (k := 0) rfl) (tks_lt _ _ (by simp) _) (fun j u hu => hS.cell (k := 2) rfl (K_at hu)) (hap (k := 2) (i := 1) (j := 0) hS rfl rfl rfl (by omega) (by omega))) ?_
    rintro _ w ⟨rfl, hF⟩
    refine ⟨_, rfl, ?_⟩
    have hb2 := (hS.bk (k := 3) rfl).fr hF (hap (k := 3) (i := 1) (j := 0) hS rfl rfl rfl (by omega) (by omega))
    have hS2 : ST w0 No w [.blk b2 25 (List.replicate 32 (b8 0))] := ⟨hS.fr.trans hF (fun i hi hN => hold (i := 1) (j := 0) hS rfl rfl hi hN), by simpa [Ent.ok] using hb2, fun e he b hb => hS.own e (by simp at he ⊢; simp [he]) b hb, by simp⟩
    clear hS
    have hS := hS2
    refine WL.storeAll (k := 0) (vs := bs8 (finK KW (tks KW (firstW, []) (ls.take k).flatten) (UInt64.ofNat (ls.take k).flatten.length * 8))) hS (by rw [sizeT_25, bs8_len, finK, outB_len]) rfl rfl rfl bs8_one (by simp [bs8_len, finK, outB_len]) ?_
    intro w hS
    try simp only [List.set] at hS
    refine WL.nil ?_
    refine QN.thenW ?_
    refine WC.ret ?_
    refine QN.retK (k := 0) rfl rfl hS rfl (by rw [aggT_25, bs8_len, finK, outB_len]) ?_
    refine ⟨?_, hS.fr⟩
    rw [shaV, List.take_of_length_le (by omega)]

set_option maxRecDepth 100000 in
theorem sum_c (A : Option Addr) (m c : Nat) (bl : List UInt8) (w0 : World) (hb : Rs w0 (.slice A m c) 1 (bs8 bl)) : Calls Try.prog 20 #[.slice A m c] w0 (KeyPost (shaV bl) w0) := by
  refine calls_of_WC (args := [.slice A m c]) Try.func20 rfl Try.ntmps20 rfl ?_
  show WC _ _ _ _ [(0, .slice A m c)] _
  have hS := ST.start w0 No
  refine WC.seq ?_
  refine WC.region ?_
  refine WL.alloc hS zeroT_25 rfl ?_
  intro b2 w hb2 hS
  refine WL.nil ?_
  refine QN.thenW ?_
  refine WC.seq ?_
  refine WC.region ?_
  refine WL.pv (pv_move rfl) rfl ?_
  refine WL.build1 hS slT_29 zeroT_22 rfl rfl rfl rfl ?_
  intro b4 w hb4 hS
  refine WL.call (args := [.tmp 4]) cf_56 rfl rfl (of_c _ 1 1 [bl] _ ⟨[.slice A m c], (hS.bk (k := 0) rfl).rs 0 1 1 1 (by omega) (by simp [maxLen]) (by simp), by simp, fun i hi hj => by simp at hi; subst hi; exact hb.no hS.fr⟩) ?_
  rintro _ w ⟨rfl, hF⟩
  refine ⟨_, rfl, ?_⟩
  replace hS := hS.no hF
  rw [List.flatten_singleton]
  refine WL.storeAll (k := 1) (vs := bs8 (shaV bl)) hS (by rw [sizeT_25, bs8_len, shaV_len]) rfl rfl rfl bs8_one (by simp [bs8_len, shaV_len]) ?_
  intro w hS
  try simp only [List.set] at hS
  refine WL.nil ?_
  refine QN.thenW ?_
  refine WC.ret ?_
  refine QN.retK (k := 1) rfl rfl hS rfl (by rw [aggT_25, bs8_len, shaV_len]) ?_
  exact ⟨rfl, hS.fr⟩

set_option maxRecDepth 100000 in
theorem sums_c (A : Option Addr) (m c : Nat) (ls : List (List UInt8)) (w0 : World) (hl : RsL w0 (.slice A m c) ls) : Calls Try.prog 23 #[.slice A m c] w0 (KeyPost (shaV ls.flatten) w0) := by
  refine calls_of_WC (args := [.slice A m c]) Try.func23 rfl Try.ntmps23 rfl ?_
  show WC _ _ _ _ [(0, .slice A m c)] _
  have hS := ST.start w0 No
  refine WC.seq ?_
  refine WC.region ?_
  refine WL.alloc hS zeroT_25 rfl ?_
  intro b2 w hb2 hS
  refine WL.nil ?_
  refine QN.thenW ?_
  refine WC.seq ?_
  refine WC.region ?_
  refine WL.pv (pv_move rfl) rfl ?_
  refine WL.call (args := [.tmp 3]) cf_56 rfl rfl (of_c A m c ls _ (hl.fr hS.fr (fun _ _ h => h))) ?_
  rintro _ w ⟨rfl, hF⟩
  refine ⟨_, rfl, ?_⟩
  replace hS := hS.no hF
  refine WL.storeAll (k := 0) (vs := bs8 (shaV ls.flatten)) hS (by rw [sizeT_25, bs8_len, shaV_len]) rfl rfl rfl bs8_one (by simp [bs8_len, shaV_len]) ?_
  intro w hS
  try simp only [List.set] at hS
  refine WL.nil ?_
  refine QN.thenW ?_
  refine WC.ret ?_
  refine QN.retK (k := 0) rfl rfl hS rfl (by rw [aggT_25, bs8_len, shaV_len]) ?_
  exact ⟨rfl, hS.fr⟩

end Go.Proofs.Ytjcebkhhgdgohaa
