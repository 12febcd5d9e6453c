/- What the reference functions of the digest compute. -/
import Derived.Test.YtjcebkhhgdgohaaWa
namespace Go.Proofs.Ytjcebkhhgdgohaa
open Go Go.RowKit Go.Eng
theorem aggT_162 : aggT Try.prog 162 = some 4 := by kernel_rfl
theorem cf_115 : callable Try.prog 115 = true := by kernel_rfl
theorem layT_162 : layOf Try.prog 162 = some [(0, 1), (1, 1), (2, 1), (3, 1)] := by kernel_rfl
theorem sizeT_162 : sizeT Try.prog 162 = some 4 := by kernel_rfl
theorem zeroT_162 : zeroT Try.prog 162 = some ([w64 0, .slice none 0 0, .int .i64 0, .int .i64 0]) := by kernel_rfl

/-- The bytes as a number, the highest first. -/
def numBE (l : List UInt8) : UInt64 := l.foldl (fun x c => 256 * x + c.toUInt64) 0
theorem numBE_snoc (l : List UInt8) (c : UInt8) : numBE (l ++ [c]) = 256 * numBE l + c.toUInt64 := by simp [numBE]
/-- What a function without memory of its own hands back. -/
def Pure (v : Value) (w0 : World) (e : Ending) (w : World) : Prop := e = .returned v ∧ w0 = w
theorem take_succ_drop {l : List UInt8} {a k : Nat} (h : a + k < l.length) : (l.drop a).take (k + 1) = (l.drop a).take k ++ [l[a + k]] := by
  rw [List.take_succ_eq_append_getElem (by simp; omega)]; simp

set_option maxRecDepth 100000 in
theorem number_c (A : Option Addr) (m c at_ n : Nat) (bl : List UInt8) (w0 : World) (hb : Rs w0 (.slice A m c) 1 (bs8 bl)) (h : at_ + n ≤ bl.length) :
    Calls Try.prog 115 #[.slice A m c, .int .i64 (at_ : Int), .int .i64 (n : Int)] w0 fun e w => e = .returned (w64 (numBE ((bl.drop at_).take n))) ∧ Fr No w0 w := by
  have hln := hb.len
  rw [bs8_len] at hln
  have hmx : m ≤ 9223372036854775807 := by have := hln; simp only [maxLen] at this; omega
  refine calls_of_WC (args := [.slice A m c, .int .i64 (at_ : Int), .int .i64 (n : Int)]) Try.func115 rfl Try.ntmps115 rfl ?_
  show WC _ _ _ _ [(0, .slice A m c), (1, .int .i64 (at_ : Int)), (2, .int .i64 (n : Int))] _
  have hS := ST.start w0 No
  refine WC.seq ?_
  refine WC.region ?_
  refine WL.pv (pv_assign rfl) rfl ?_
  refine WL.nil ?_
  refine QN.thenW ?_
  refine WC.seq ?_
  refine WC.region ?_
  refine WL.pv (pv_assign rfl) rfl ?_
  refine WL.nil ?_
  refine QN.thenW ?_
  refine WC.seq ?_
  refine WC.seq ?_
  refine WC.region ?_
  refine WL.pv (pv_assign rfl) rfl ?_
  refine WL.nil ?_
  refine QN.thenW ?_
  refine WC.block ?_
  refine WC.loop (α := Nat) (fun k => [(0, .slice A m c), (1, .int .i64 (at_ : Int)), (2, .int .i64 (n : Int)), (7, w64 (numBE ((bl.drop at_).take k))), (8, .int .i64 (k : Int))]) (fun k w => k ≤ n ∧ ST w0 No w []) (fun k => n - k) (0) (Sub.cons rfl (Sub.cons rfl (Sub.cons rfl (Sub.cons rfl (Sub.cons rfl Sub.nil))))) ⟨by omega, hS⟩ ?_
  rintro k w N hN hR
  obtain ⟨hk, hS⟩ := hR
  refine WC.seq ?_
  refine WC.seq ?_
  refine WC.region ?_
  refine WL.pv (pv_move rfl) rfl ?_
  refine WL.pv (pv_move rfl) rfl ?_
  refine WL.pv (pv_lss rfl rfl) rfl ?_
  refine WL.nil ?_
  refine QN.thenW ?_
  refine WC.condD rfl (fun hc11 => ?_) (fun hc11 => ?_)
  · skip
    have hkn : k < n := by omega
    obtain ⟨b, o, rfl, hl, hc1, hc2, hcell⟩ := hb.at_ (by rw [bs8_len]; omega)
    rw [bs8_len] at hl
    refine WC.skip ?_
    refine QN.thenW ?_
    refine WC.seq ?_
    refine WC.block ?_
    refine WC.region ?_
    refine WL.pv (pv_move rfl) rfl ?_
    refine WL.pv (pv_mul64 (a := 256) rfl rfl) rfl ?_
    refine WL.pv (pv_move rfl) rfl ?_
    refine WL.pv (pv_move rfl) rfl ?_
    refine WL.pv (pv_move rfl) rfl ?_
    refine WL.pv (pv_add rfl rfl (by omega)) rfl ?_
    refine WL.pv (pv_indexAddrS1 (j := at_ + k) slT_22 rfl rfl (by omega) (by omega)) rfl ?_
    refine WL.rv (rv_load oneT_5 rfl (hS.fr.cellS (hcell (at_ + k) _ (bs8_at (by omega))) (fun h => h))) rfl ?_
    refine WL.pv (pv_conv someT_5 Try.underlying86 rfl (cv_8_64 _)) rfl ?_
    refine WL.pv (pv_add64 rfl rfl) rfl ?_
    refine WL.pv (pv_assign rfl) rfl ?_
    refine WL.nil ?_
    refine QN.blockN ?_
    refine QN.thenW ?_
    refine WC.region ?_
    refine WL.pv (pv_move rfl) rfl ?_
    refine WL.pv (pv_add rfl rfl (by omega)) rfl ?_
    refine WL.pv (pv_assign rfl) rfl ?_
    refine WL.nil ?_
    have hsub : ∀ {v : Value}, v = w64 (256 * numBE ((bl.drop at_).take k) + (bl[at_ + k]'(by omega)).toUInt64) → some v = some (w64 (numBE ((bl.drop at_).take (k + 1)))) := fun h => by rw [h, take_succ_drop (by omega), numBE_snoc]
    replace hsub := hsub rfl
    refine QN.roundE ?_
    refine ⟨(k + 1), (Sub.cons rfl (Sub.cons rfl (Sub.cons rfl (Sub.cons hsub (Sub.cons rfl Sub.nil))))), ⟨by omega, hS⟩, ?_⟩
    first | omega | (dsimp only; omega)
  · skip
    obtain rfl : k = n := by omega
    refine WC.exit ?_
    refine QN.thenX ?_
    refine QN.thenX ?_
    refine QN.blockX ?_
    refine QN.thenW ?_
    refine WC.seq ?_
    refine WC.region ?_
    refine WL.pv (pv_move rfl) rfl ?_
    refine WL.pv (pv_assign rfl) rfl ?_
    refine WL.nil ?_
    refine QN.thenW ?_
    refine WC.ret ?_
    refine QN.ret1 rfl rfl ?_
    exact ⟨rfl, hS.fr⟩

set_option maxRecDepth 100000 in
theorem takeNum_c (A : Option Addr) (m c at_ n : Nat) (bl : List UInt8) (w0 : World) (hb : Rs w0 (.slice A m c) 1 (bs8 bl)) (h : at_ + n ≤ bl.length) (h1 : 1 ≤ n) (h8 : n ≤ 8) :
    Calls Try.prog 104 #[.slice A m c, .int .i64 (at_ : Int), .int .i64 (n : Int)] w0 fun e w => e = .returned (.agg [w64 (numBE ((bl.drop at_).take n)), .slice none 0 0, .int .i64 (n : Int), .int .i64 0].toArray) ∧ Fr No w0 w := by
  have hln := hb.len
  rw [bs8_len] at hln
  have hmx : m ≤ 9223372036854775807 := by have := hln; simp only [maxLen] at this; omega
  refine calls_of_WC (args := [.slice A m c, .int .i64 (at_ : Int), .int .i64 (n : Int)]) Try.func104 rfl Try.ntmps104 rfl ?_
  show WC _ _ _ _ [(0, .slice A m c), (1, .int .i64 (at_ : Int)), (2, .int .i64 (n : Int))] _
  have hS := ST.start w0 No
  refine WC.seq ?_
  refine WC.region ?_
  refine WL.alloc hS zeroT_162 rfl ?_
  intro b6 w hb6 hS
  refine WL.nil ?_
  refine QN.thenW ?_
  refine WC.seq ?_
  refine WC.seq ?_
  refine WC.region ?_
  refine WL.pv (pv_move rfl) rfl ?_
  refine WL.pv (pv_lss rfl rfl) rfl ?_
  refine WL.pv (pv_move rfl) rfl ?_
  refine WL.guardT rfl rfl rfl (lkF rfl (by omega)) ?_
  refine WL.pv (pv_move rfl) rfl ?_
  refine WL.guardT rfl rfl rfl (lkF rfl (by omega)) ?_
  refine WL.pv (pv_gtr rfl rfl) rfl ?_
  refine WL.pv (pv_pick0 (lkF rfl (by omega)) rfl) rfl ?_
  refine WL.nil ?_
  refine QN.thenW ?_
  refine WC.condDF rfl (by omega) ?_
  refine WC.skip ?_
  refine QN.thenW ?_
  refine WC.seq ?_
  refine WC.seq ?_
  refine WC.region ?_
  refine WL.pv (pv_move rfl) rfl ?_
  refine WL.pv (pv_len slS_22 rfl) rfl ?_
  refine WL.pv (pv_move rfl) rfl ?_
  refine WL.pv (pv_sub rfl rfl (by omega)) rfl ?_
  refine WL.pv (pv_move rfl) rfl ?_
  refine WL.pv (pv_lss rfl rfl) rfl ?_
  refine WL.nil ?_
  refine QN.thenW ?_
  refine WC.condDF rfl (by omega) ?_
  refine WC.skip ?_
  refine QN.thenW ?_
  refine WC.seq ?_
  refine WC.region ?_
  refine WL.pv (pv_move rfl) rfl ?_
  refine WL.pv (pv_move rfl) rfl ?_
  refine WL.pv (pv_move rfl) rfl ?_
  refine WL.call (args := [.tmp 21, .tmp 22, .tmp 23]) cf_115 rfl rfl (number_c A m c at_ n bl _ (hb.no hS.fr) h) ?_
  rintro _ w ⟨rfl, hF⟩
  refine ⟨_, rfl, ?_⟩
  replace hS := hS.no hF
  refine WL.pv (pv_move rfl) rfl ?_
  refine WL.pv (pv_buildS (parts := [(0, .tmp 24), (2, .tmp 25)]) layT_162 zeroT_162 rfl rfl) rfl ?_
  refine WL.storeAll (k := 0) (vs := [w64 (numBE ((bl.drop at_).take n)), .slice none 0 0, .int .i64 (n : Int), .int .i64 0]) hS (by rw [sizeT_162]; simp) rfl rfl rfl (by simp [Value.oneCell']) (by simp) ?_
  intro w hS
  try simp only [List.set] at hS
  refine WL.nil ?_
  refine QN.thenW ?_
  refine WC.ret ?_
  refine QN.retK (k := 0) rfl rfl hS rfl (by rw [aggT_162]; simp) ?_
  exact ⟨rfl, hS.fr⟩

end Go.Proofs.Ytjcebkhhgdgohaa
namespace Go.Proofs.Ytjcebkhhgdgohaa
open Go Go.RowKit Go.Eng


theorem take_eq_succ {a b : List UInt8} {k : Nat} (ha : k < a.length) (hb : k < b.length) (h : a.take k = b.take k) (h2 : a[k] = b[k]) : a.take (k + 1) = b.take (k + 1) := by
  rw [List.take_succ_eq_append_getElem ha, List.take_succ_eq_append_getElem hb, h, h2]

set_option maxRecDepth 100000 in
theorem same_c (A B : Option Addr) (m c m2 c2 : Nat) (la lb : List UInt8) (w0 : World) (ha : Rs w0 (.slice A m c) 1 (bs8 la)) (hb : Rs w0 (.slice B m2 c2) 1 (bs8 lb)) :
    Calls Try.prog 22 #[.slice A m c, .slice B m2 c2] w0 fun e w => e = .returned (.bool (decide (la = lb))) ∧ Fr No w0 w := by
  have hln := ha.len
  rw [bs8_len] at hln
  have hln2 := hb.len
  rw [bs8_len] at hln2
  have hmx : m ≤ 9223372036854775807 := by have := hln; simp only [maxLen] at this; omega
  have hmx2 : m2 ≤ 9223372036854775807 := by have := hln2; simp only [maxLen] at this; omega
  refine calls_of_WC (args := [.slice A m c, .slice B m2 c2]) Try.func22 rfl Try.ntmps22 rfl ?_
  show WC _ _ _ _ [(0, .slice A m c), (1, .slice B m2 c2)] _
  have hS := ST.start w0 No
  refine WC.seq ?_
  refine WC.region ?_
  refine WL.pv (pv_assign rfl) rfl ?_
  refine WL.nil ?_
  refine QN.thenW ?_
  refine WC.seq ?_
  refine WC.seq ?_
  refine WC.region ?_
  refine WL.pv (pv_move rfl) rfl ?_
  refine WL.pv (pv_len slS_22 rfl) rfl ?_
  refine WL.pv (pv_move rfl) rfl ?_
  refine WL.pv (pv_len slS_22 rfl) rfl ?_
  refine WL.pv (pv_neq rfl rfl) rfl ?_
  refine WL.nil ?_
  refine QN.thenW ?_
  refine WC.condD rfl (fun hc10 => ?_) (fun hc10 => ?_)
  · skip
    have hne : ¬ la = lb := fun h => by subst h; omega
    refine WC.seq ?_
    refine WC.region ?_
    refine WL.pv (pv_assign rfl) rfl ?_
    refine WL.nil ?_
    refine QN.thenW ?_
    refine WC.ret ?_
    refine QN.thenR ?_
    refine QN.ret1 rfl rfl ?_
    first
    | exact ⟨by rw [decide_eq_false hne], hS.fr⟩
    | exact ⟨by rw [decide_eq_true heq], hS.fr⟩
  · skip
    obtain rfl : m = m2 := by omega
    refine WC.skip ?_
    refine QN.thenW ?_
    refine WC.seq ?_
    refine WC.seq ?_
    refine WC.region ?_
    refine WL.pv (pv_assign rfl) rfl ?_
    refine WL.nil ?_
    refine QN.thenW ?_
    refine WC.block ?_
    refine WC.loop (α := Nat) (fun k => [(0, .slice A m c), (1, .slice B m c2), (5, .int .i64 (k : Int))]) (fun k w => k ≤ m ∧ la.take k = lb.take k ∧ ST w0 No w []) (fun k => m - k) (0) (Sub.cons rfl (Sub.cons rfl (Sub.cons rfl Sub.nil))) ⟨by omega, rfl, hS⟩ ?_
    rintro k w N hN hR
    obtain ⟨hk, htk, hS⟩ := hR
    refine WC.seq ?_
    refine WC.seq ?_
    refine WC.region ?_
    refine WL.pv (pv_move rfl) rfl ?_
    refine WL.pv (pv_move rfl) rfl ?_
    refine WL.pv (pv_len slS_22 rfl) rfl ?_
    refine WL.pv (pv_lss rfl rfl) rfl ?_
    refine WL.nil ?_
    refine QN.thenW ?_
    refine WC.condD rfl (fun hc14 => ?_) (fun hc14 => ?_)
    · skip
      have hkm : k < m := by omega
      obtain ⟨b1, o1, rfl, hl, hc1, hc2, hcell⟩ := ha.at_ (by rw [bs8_len]; omega)
      obtain ⟨b2, o2, rfl, hl', hc1', hc2', hcell'⟩ := hb.at_ (by rw [bs8_len]; omega)
      rw [bs8_len] at hl hl' 
      refine WC.skip ?_
      refine QN.thenW ?_
      refine WC.seq ?_
      refine WC.block ?_
      refine WC.seq ?_
      refine WC.still mixedO (by kernel_rfl) ?_
      have hS := hS.no (Fr.drew _)
      refine WS.pv (pv_move rfl) rfl ?_
      refine WS.pv (pv_move rfl) rfl ?_
      refine WS.pv (pv_indexAddrS1 slT_22 rfl rfl rfl (by omega)) rfl ?_
      refine WS.rv (rv_load oneT_5 rfl (hS.fr.cellS (hcell k _ (bs8_at (by omega))) (fun h => h))) rfl ?_
      refine WS.pv (pv_move rfl) rfl ?_
      refine WS.pv (pv_move rfl) rfl ?_
      refine WS.pv (pv_indexAddrS1 slT_22 rfl rfl rfl (by omega)) rfl ?_
      refine WS.rv (rv_load oneT_5 rfl (hS.fr.cellS (hcell' k _ (bs8_at (by omega))) (fun h => h))) rfl ?_
      refine WS.pv (pv_neq rfl rfl) rfl ?_
      refine WS.done ?_
      refine QN.thenW ?_
      refine WC.condD rfl (fun hc25 => ?_) (fun hc25 => ?_)
      · skip
        have hne : ¬ la = lb := fun h => by subst h; simp at hc25
        refine WC.seq ?_
        refine WC.region ?_
        refine WL.pv (pv_assign rfl) rfl ?_
        refine WL.nil ?_
        refine QN.thenW ?_
        refine WC.ret ?_
        refine QN.blockR ?_
        refine QN.thenR ?_
        refine QN.thenR ?_
        refine QN.blockR ?_
        refine QN.thenR ?_
        refine QN.ret1 rfl rfl ?_
        first
        | exact ⟨by rw [decide_eq_false hne], hS.fr⟩
        | exact ⟨by rw [decide_eq_true heq], hS.fr⟩
      · skip
        have hEq : la[k]'(by omega) = lb[k]'(by omega) := UInt8.toNat_inj.mp (by omega)
        refine WC.skip ?_
        refine QN.blockN ?_
        refine QN.thenW ?_
        refine WC.region ?_
        refine WL.pv (pv_move rfl) rfl ?_
        refine WL.pv (pv_add rfl rfl (by omega)) rfl ?_
        refine WL.pv (pv_assign rfl) rfl ?_
        refine WL.nil ?_
        refine QN.roundE ?_
        refine ⟨(k + 1), (Sub.cons rfl (Sub.cons rfl (Sub.cons rfl Sub.nil))), ⟨by omega, take_eq_succ (by omega) (by omega) htk hEq, hS⟩, ?_⟩
        first | omega | (dsimp only; omega)
    · skip
      obtain rfl : k = m := by omega
      have heq : la = lb := by rwa [List.take_of_length_le (by omega), List.take_of_length_le (by omega)] at htk
      refine WC.exit ?_
      refine QN.thenX ?_
      refine QN.thenX ?_
      refine QN.blockX ?_
      refine QN.thenW ?_
      refine WC.seq ?_
      refine WC.region ?_
      refine WL.pv (pv_assign rfl) rfl ?_
      refine WL.nil ?_
      refine QN.thenW ?_
      refine WC.ret ?_
      refine QN.ret1 rfl rfl ?_
      first
      | exact ⟨by rw [decide_eq_false hne], hS.fr⟩
      | exact ⟨by rw [decide_eq_true heq], hS.fr⟩

end Go.Proofs.Ytjcebkhhgdgohaa
namespace Go.Proofs.Ytjcebkhhgdgohaa
open Go Go.RowKit Go.Eng
theorem arrT_137 : arrT Try.prog 137 = some (3, 1) := by kernel_rfl

/-- x divided by 256 so often. -/
def divs (x : UInt64) : Nat → UInt64
  | 0 => x
  | k + 1 => divs x k / 256
/-- The lowest n bytes of a number, the highest first. -/
def beB (x : UInt64) (n : Nat) : List UInt8 := (List.range n).map fun j => (divs x (n - 1 - j) % 256).toUInt8
theorem beB_len (x : UInt64) (n : Nat) : (beB x n).length = n := by simp [beB]
/-- A row that fills from its end. -/
def fillE (f : Nat → UInt8) (N k : Nat) : List UInt8 := (List.range N).map fun j => if N ≤ j + k then f j else 0
theorem fillE_len (f : Nat → UInt8) (N k : Nat) : (fillE f N k).length = N := by simp [fillE]
theorem fillE_zero (f : Nat → UInt8) (N : Nat) : fillE f N 0 = List.replicate N 0 := by
  apply List.ext_getElem
  · simp [fillE]
  · intro i h1 h2; simp [fillE] at h1 ⊢; omega
theorem fillE_all (f : Nat → UInt8) (N : Nat) : fillE f N N = (List.range N).map f := by
  apply List.ext_getElem
  · simp [fillE]
  · intro i h1 h2; simp [fillE] at h1 ⊢
theorem fillE_set (f : Nat → UInt8) {N k : Nat} (h : k < N) (c : UInt8) (hc : c = f (N - 1 - k)) : (fillE f N k).set (N - 1 - k) c = fillE f N (k + 1) := by
  subst hc
  apply List.ext_getElem
  · simp [fillE]
  · intro i h1 h2
    simp only [fillE, List.getElem_set, List.getElem_map, List.getElem_range]
    simp [fillE] at h1
    by_cases h : N - 1 - k = i
    · subst h; rw [if_pos rfl, if_pos (by omega)]
    · rw [if_neg h]
      by_cases h3 : N ≤ i + k
      · rw [if_pos h3, if_pos (by omega)]
      · rw [if_neg h3, if_neg (by omega)]
def OwnPost (cs : List Value) (t : TypeId) (w0 : World) (e : Ending) (w : World) : Prop := ∃ v, e = .returned v ∧ Fr No w0 w ∧ Rw w v t 1 cs ∧ ∀ b, v.ownBlock = some b → w0.heap.size ≤ b
/-- A hexadecimal digit behind a number. -/
def hexD (n : UInt32) (c : UInt8) : UInt32 := if 97 ≤ c.toNat then 16 * n + (c - 97).toUInt32 + 10 else 16 * n + (c - 48).toUInt32
def hexP (s : ByteArray) (i : Nat) : Nat → UInt32
  | 0 => 0
  | k + 1 => hexD (hexP s i k) (s.data[8 * i + k]?.getD 0)
/-- The i-th word of a text of digits. -/
def hexW (s : ByteArray) (i : Nat) : UInt32 := hexP s i 8
theorem hexP_succ (s : ByteArray) (i k : Nat) (h : 8 * i + k < s.size) : hexP s i (k + 1) = hexD (hexP s i k) s[8 * i + k] := by
  have h' : 8 * i + k < s.data.size := h
  rw [hexP, Array.getElem?_eq_getElem h']; rfl

set_option maxRecDepth 100000 in
theorem beBytes_c (x : UInt64) (n : Nat) (w0 : World) (hn : n ≤ 8) : Calls Try.prog 61 #[w64 x, .int .i64 (n : Int)] w0 (OwnPost (bs8 (beB x n)) 5 w0) := by
  refine calls_of_WC (args := [w64 x, .int .i64 (n : Int)]) Try.func61 rfl Try.ntmps61 rfl ?_
  show WC _ _ _ _ [(0, w64 x), (1, .int .i64 (n : Int))] _
  have hS := ST.start w0 No
  refine WC.seq ?_
  refine WC.region ?_
  refine WL.pv (pv_assign rfl) rfl ?_
  refine WL.nil ?_
  refine QN.thenW ?_
  refine WC.seq ?_
  refine WC.region ?_
  refine WL.pv (pv_move rfl) rfl ?_
  refine WL.makeB hS slT_22 zeroT_5 (by simp) rfl rfl (by omega) (by simp [maxLen]; omega) rfl ?_
  intro bo w hbo hS
  rw [show (List.replicate n [b8 0]).flatten = bs8 (fillE (fun j => (divs x (n - 1 - j) % 256).toUInt8) n 0) from by rw [fillE_zero]; simp [bs8]] at hS
  refine WL.pv (pv_assign rfl) rfl ?_
  refine WL.nil ?_
  refine QN.thenW ?_
  refine WC.seq ?_
  refine WC.seq ?_
  refine WC.region ?_
  refine WL.pv (pv_move rfl) rfl ?_
  refine WL.pv (pv_sub rfl rfl (by omega)) rfl ?_
  refine WL.pv (pv_assign rfl) rfl ?_
  refine WL.nil ?_
  refine QN.thenW ?_
  refine WC.block ?_
  refine WC.loop (α := Nat) (fun k => [(0, w64 (divs x k)), (1, .int .i64 (n : Int)), (5, .slice (some ⟨bo, 0, none⟩) n n), (6, .int .i64 ((n : Int) - 1 - (k : Int)))]) (fun k w => k ≤ n ∧ ST w0 No w [.blk bo 5 (bs8 (fillE (fun j => (divs x (n - 1 - j) % 256).toUInt8) n k))]) (fun k => n - k) (0) (Sub.cons rfl (Sub.cons rfl (Sub.cons rfl (Sub.cons (by simp [lk]) Sub.nil)))) ⟨by omega, hS⟩ ?_
  rintro k w N hN hR
  obtain ⟨hk, hS⟩ := hR
  refine WC.seq ?_
  refine WC.seq ?_
  refine WC.region ?_
  refine WL.pv (pv_move rfl) rfl ?_
  refine WL.pv (pv_geq rfl rfl) rfl ?_
  refine WL.nil ?_
  refine QN.thenW ?_
  refine WC.condD rfl (fun hc12 => ?_) (fun hc12 => ?_)
  · skip
    have hkn : k < n := by omega
    refine WC.skip ?_
    refine QN.thenW ?_
    refine WC.seq ?_
    refine WC.block ?_
    refine WC.seq ?_
    refine WC.region ?_
    refine WL.pv (pv_move rfl) rfl ?_
    refine WL.pv (pv_move rfl) rfl ?_
    refine WL.pv (pv_move rfl) rfl ?_
    refine WL.pv (pv_rem64u (b := 256) rfl rfl (by decide)) rfl ?_
    refine WL.pv (pv_conv someT_86 Try.underlying5 rfl (cv_64_8 _)) rfl ?_
    refine WL.pv (pv_indexAddrS1Z (j := n - 1 - k) slT_22 rfl rfl (by omega) (by omega)) rfl ?_
    refine WL.store (k := 0) hS sizeT_5 rfl rfl rfl rfl (by rw [bs8_len, fillE_len]; omega) ?_
    intro w hS
    try simp only [List.set] at hS
    rw [bs8_set, fillE_set _ hkn _ (by rw [show n - 1 - (n - 1 - k) = k from by omega])] at hS
    refine WL.nil ?_
    refine QN.thenW ?_
    refine WC.region ?_
    refine WL.pv (pv_move rfl) rfl ?_
    refine WL.pv (pv_quo64u (b := 256) rfl rfl (by decide)) rfl ?_
    refine WL.pv (pv_assign rfl) rfl ?_
    refine WL.nil ?_
    refine QN.blockN ?_
    refine QN.thenW ?_
    refine WC.region ?_
    refine WL.pv (pv_move rfl) rfl ?_
    refine WL.pv (pv_sub rfl rfl (by omega)) rfl ?_
    refine WL.pv (pv_assign rfl) rfl ?_
    refine WL.nil ?_
    refine QN.roundE ?_
    refine ⟨(k + 1), (Sub.cons rfl (Sub.cons rfl (Sub.cons rfl (Sub.cons (by simp only [lk]; simp; omega) Sub.nil)))), ⟨by omega, hS⟩, ?_⟩
    first | omega | (dsimp only; omega)
  · skip
    obtain rfl : k = n := by omega
    refine WC.exit ?_
    refine QN.thenX ?_
    refine QN.thenX ?_
    refine QN.blockX ?_
    refine QN.thenW ?_
    refine WC.seq ?_
    refine WC.region ?_
    refine WL.pv (pv_move rfl) rfl ?_
    refine WL.pv (pv_assign rfl) rfl ?_
    refine WL.nil ?_
    refine QN.thenW ?_
    refine WC.ret ?_
    refine QN.ret1 rfl rfl ?_
    exact ⟨_, rfl, hS.fr, by rw [beB, ← fillE_all]; exact (hS.bk (k := 0) rfl).toRw (by simp [bs8_len, fillE_len]) (by simp only [maxLen]; omega), fun b hb => by injection hb with hb; subst hb; exact hbo⟩

set_option maxRecDepth 100000 in
theorem word_c (s : ByteArray) (i : Nat) (w0 : World) (h : 8 * i + 8 ≤ s.size) (hs : s.size ≤ 4096) : Calls Try.prog 58 #[.string s, .int .i64 (i : Int)] w0 fun e w => e = .returned (w32 (hexW s i)) ∧ Fr No w0 w := by
  refine calls_of_WC (args := [.string s, .int .i64 (i : Int)]) Try.func58 rfl Try.ntmps58 rfl ?_
  show WC _ _ _ _ [(0, .string s), (1, .int .i64 (i : Int))] _
  have hS := ST.start w0 No
  refine WC.seq ?_
  refine WC.region ?_
  refine WL.pv (pv_assign rfl) rfl ?_
  refine WL.nil ?_
  refine QN.thenW ?_
  refine WC.seq ?_
  refine WC.region ?_
  refine WL.pv (pv_assign rfl) rfl ?_
  refine WL.nil ?_
  refine QN.thenW ?_
  refine WC.seq ?_
  refine WC.seq ?_
  refine WC.region ?_
  refine WL.pv (pv_move rfl) rfl ?_
  refine WL.pv (pv_mul rfl rfl (by omega)) rfl ?_
  refine WL.pv (pv_assign rfl) rfl ?_
  refine WL.nil ?_
  refine QN.thenW ?_
  refine WC.block ?_
  refine WC.loop (α := Nat) (fun k => [(0, .string s), (1, .int .i64 (i : Int)), (5, w32 (hexP s i k)), (6, .int .i64 ((8 * i + k : Nat) : Int))]) (fun k w => k ≤ 8 ∧ ST w0 No w []) (fun k => 8 - k) (0) (Sub.cons rfl (Sub.cons rfl (Sub.cons rfl (Sub.cons (by simp [lk]) Sub.nil)))) ⟨by omega, hS⟩ ?_
  rintro k w N hN hR
  obtain ⟨hk, hS⟩ := hR
  refine WC.seq ?_
  refine WC.seq ?_
  refine WC.region ?_
  refine WL.pv (pv_move rfl) rfl ?_
  refine WL.pv (pv_move rfl) rfl ?_
  refine WL.pv (pv_mul rfl rfl (by omega)) rfl ?_
  refine WL.pv (pv_add rfl rfl (by omega)) rfl ?_
  refine WL.pv (pv_lss rfl rfl) rfl ?_
  refine WL.nil ?_
  refine QN.thenW ?_
  refine WC.condD rfl (fun hc13 => ?_) (fun hc13 => ?_)
  · skip
    have hk8 : k < 8 := by omega
    have hsuc := hexP_succ s i k (by omega)
    refine WC.skip ?_
    refine QN.thenW ?_
    refine WC.seq ?_
    refine WC.block ?_
    refine WC.seq ?_
    refine WC.region ?_
    refine WL.pv (pv_move rfl) rfl ?_
    refine WL.pv (pv_move rfl) rfl ?_
    refine WL.pv (pv_indexStr (j := 8 * i + k) Try.underlying9 rfl rfl (by omega) (by omega)) rfl ?_
    refine WL.pv (pv_geq rfl rfl) rfl ?_
    refine WL.nil ?_
    refine QN.thenW ?_
    refine WC.condD rfl (fun hc19 => ?_) (fun hc19 => ?_)
    · skip
      have hsub : (some (w32 (16 * hexP s i k + (s[8 * i + k] - 97).toUInt32 + 10))) = some (w32 (hexP s i (k + 1))) := by rw [hsuc, hexD, if_pos (by omega)]
      refine WC.region ?_
      refine WL.pv (pv_move rfl) rfl ?_
      refine WL.pv (pv_mul32 (a := 16) rfl rfl) rfl ?_
      refine WL.pv (pv_move rfl) rfl ?_
      refine WL.pv (pv_move rfl) rfl ?_
      refine WL.pv (pv_indexStr (j := 8 * i + k) Try.underlying9 rfl rfl (by omega) (by omega)) rfl ?_
      refine WL.pv (pv_sub8 (b := 97) rfl rfl) rfl ?_
      refine WL.pv (pv_conv someT_5 Try.underlying91 rfl (cv_8_32 _)) rfl ?_
      refine WL.pv (pv_add32 rfl rfl) rfl ?_
      refine WL.pv (pv_add32 (b := 10) rfl rfl) rfl ?_
      refine WL.pv (pv_assign rfl) rfl ?_
      refine WL.nil ?_
      refine QN.blockN ?_
      refine QN.thenW ?_
      refine WC.region ?_
      refine WL.pv (pv_move rfl) rfl ?_
      refine WL.pv (pv_add rfl rfl (by omega)) rfl ?_
      refine WL.pv (pv_assign rfl) rfl ?_
      refine WL.nil ?_
      refine QN.roundE ?_
      refine ⟨(k + 1), (Sub.cons rfl (Sub.cons rfl (Sub.cons hsub (Sub.cons rfl Sub.nil)))), ⟨by omega, hS⟩, ?_⟩
      first | omega | (dsimp only; omega)
    · skip
      have hsub : (some (w32 (16 * hexP s i k + (s[8 * i + k] - 48).toUInt32))) = some (w32 (hexP s i (k + 1))) := by rw [hsuc, hexD, if_neg (by omega)]
      refine WC.region ?_
      refine WL.pv (pv_move rfl) rfl ?_
      refine WL.pv (pv_mul32 (a := 16) rfl rfl) rfl ?_
      refine WL.pv (pv_move rfl) rfl ?_
      refine WL.pv (pv_move rfl) rfl ?_
      refine WL.pv (pv_indexStr (j := 8 * i + k) Try.underlying9 rfl rfl (by omega) (by omega)) rfl ?_
      refine WL.pv (pv_sub8 (b := 48) rfl rfl) rfl ?_
      refine WL.pv (pv_conv someT_5 Try.underlying91 rfl (cv_8_32 _)) rfl ?_
      refine WL.pv (pv_add32 rfl rfl) rfl ?_
      refine WL.pv (pv_assign rfl) rfl ?_
      refine WL.nil ?_
      refine QN.blockN ?_
      refine QN.thenW ?_
      refine WC.region ?_
      refine WL.pv (pv_move rfl) rfl ?_
      refine WL.pv (pv_add rfl rfl (by omega)) rfl ?_
      refine WL.pv (pv_assign rfl) rfl ?_
      refine WL.nil ?_
      refine QN.roundE ?_
      refine ⟨(k + 1), (Sub.cons rfl (Sub.cons rfl (Sub.cons hsub (Sub.cons rfl Sub.nil)))), ⟨by omega, hS⟩, ?_⟩
      first | omega | (dsimp only; omega)
  · skip
    obtain rfl : k = 8 := by omega
    refine WC.exit ?_
    refine QN.thenX ?_
    refine QN.thenX ?_
    refine QN.blockX ?_
    refine QN.thenW ?_
    refine WC.seq ?_
    refine WC.region ?_
    refine WL.pv (pv_move rfl) rfl ?_
    refine WL.pv (pv_assign rfl) rfl ?_
    refine WL.nil ?_
    refine QN.thenW ?_
    refine WC.ret ?_
    refine QN.ret1 rfl rfl ?_
    exact ⟨rfl, hS.fr⟩


theorem cv_u64 (y : Nat) (h : y < 2 ^ 64) : IntKind.u64.wrap (y : Int) = (y : Int) := by rw [wrap_u_nat _ rfl, show IntKind.u64.bits = 64 from rfl, Nat.mod_eq_of_lt h]
def xor3 (x : UInt32) (a : Nat) : UInt32 := shr32 x a ||| x <<< UInt32.ofNat (32 - a)
def threeV (x : UInt32) (a b c : Nat) : UInt32 := 0 ^^^ xor3 x a ^^^ xor3 x b ^^^ xor3 x c
def threeP (x : UInt32) (a b c : Nat) : Nat → UInt32
  | 0 => 0
  | 1 => 0 ^^^ xor3 x a
  | 2 => 0 ^^^ xor3 x a ^^^ xor3 x b
  | _ => threeV x a b c
def twoV (x : UInt32) (a b c : Nat) : UInt32 := threeV x a b c ^^^ x <<< UInt32.ofNat (32 - c)
def int3 (a b c : Nat) : List Value := [.int .i64 (a : Int), .int .i64 (b : Int), .int .i64 (c : Int)]

set_option maxRecDepth 100000 in
theorem three_c (x : UInt32) (a b c : Nat) (w0 : World) (ha : 0 < a ∧ a < 32) (hb : 0 < b ∧ b < 32) (hc : 0 < c ∧ c < 32) : Calls Try.prog 84 #[w32 x, .agg (int3 a b c).toArray] w0 fun e w => e = .returned (w32 (threeV x a b c)) ∧ Fr No w0 w := by
  refine calls_of_WC (args := [w32 x, .agg (int3 a b c).toArray]) Try.func84 rfl Try.ntmps84 rfl ?_
  show WC _ _ _ _ [(0, w32 x), (1, .agg (int3 a b c).toArray)] _
  have hS := ST.start w0 No
  refine WC.seq ?_
  refine WC.region ?_
  refine WL.box (vs := int3 a b c) hS rfl rfl rfl ?_
  intro b3 w hb3 hS
  refine WL.pv (pv_assign rfl) rfl ?_
  refine WL.nil ?_
  refine QN.thenW ?_
  refine WC.seq ?_
  refine WC.region ?_
  refine WL.pv (pv_assign rfl) rfl ?_
  refine WL.nil ?_
  refine QN.thenW ?_
  refine WC.seq ?_
  refine WC.seq ?_
  refine WC.region ?_
  refine WL.pv (pv_assign rfl) rfl ?_
  refine WL.nil ?_
  refine QN.thenW ?_
  refine WC.block ?_
  refine WC.loop (α := Nat) (fun k => [(0, w32 x), (3, .pointer (some ⟨b3, 0, none⟩)), (5, w32 (threeP x a b c k)), (6, .int .i64 (k : Int))]) (fun k w => k ≤ 3 ∧ ST w0 No w [.blk b3 137 (int3 a b c)]) (fun k => 3 - k) (0) (Sub.cons rfl (Sub.cons rfl (Sub.cons rfl (Sub.cons rfl Sub.nil)))) ⟨by omega, hS⟩ ?_
  rintro k w N hN hR
  obtain ⟨hk, hS⟩ := hR
  refine WC.seq ?_
  refine WC.seq ?_
  refine WC.region ?_
  refine WL.pv (pv_move rfl) rfl ?_
  refine WL.pv (pv_lss rfl rfl) rfl ?_
  refine WL.nil ?_
  refine QN.thenW ?_
  refine WC.condD rfl (fun hc8 => ?_) (fun hc8 => ?_)
  · skip
    obtain ⟨y, hy, hy0, hy1, hsub⟩ : ∃ y, (int3 a b c)[k]? = some (.int .i64 ((y : Nat) : Int)) ∧ 0 < y ∧ y < 32 ∧ some (w32 (threeP x a b c k ^^^ (shr32 x y ||| x <<< UInt32.ofNat (32 - y)))) = some (w32 (threeP x a b c (k + 1))) := by
      have hk3 : k < 3 := by omega
      rcases k with _ | _ | _ | k
      · exact ⟨a, rfl, ha.1, ha.2, rfl⟩
      · exact ⟨b, rfl, hb.1, hb.2, rfl⟩
      · exact ⟨c, rfl, hc.1, hc.2, rfl⟩
      · omega
    refine WC.skip ?_
    refine QN.thenW ?_
    refine WC.seq ?_
    refine WC.block ?_
    refine WC.still mixedO (by kernel_rfl) ?_
    have hS := hS.no (Fr.drew _)
    refine WS.pv (pv_move rfl) rfl ?_
    refine WS.pv (pv_move rfl) rfl ?_
    refine WS.pv (pv_move rfl) rfl ?_
    refine WS.pv (pv_indexAddrA1Z arrT_137 rfl rfl rfl (by omega)) rfl ?_
    refine WS.rv (rv_load_blk (k := 0) hS oneT_3 rfl rfl hy) rfl ?_
    refine WS.pv (pv_conv someT_3 Try.underlying164 rfl (cv_u64 y (by omega))) rfl ?_
    refine WS.pv (pv_shr32g (c := y) rfl rfl) rfl ?_
    refine WS.pv (pv_move rfl) rfl ?_
    refine WS.pv (pv_move rfl) rfl ?_
    refine WS.pv (pv_indexAddrA1Z arrT_137 rfl rfl rfl (by omega)) rfl ?_
    refine WS.rv (rv_load_blk (k := 0) hS oneT_3 rfl rfl hy) rfl ?_
    refine WS.pv (pv_sub rfl rfl (by omega)) rfl ?_
    refine WS.pv (pv_conv (n := (((32 - y : Nat)) : Int)) someT_3 Try.underlying164 (by rw [show ((32 - y : Nat) : Int) = 32 - (y : Int) from by omega]; rfl) (cv_u64 (32 - y) (by omega))) rfl ?_
    refine WS.pv (pv_shl32 (c := 32 - y) rfl rfl (by omega)) rfl ?_
    refine WS.pv (pv_or32 rfl rfl) rfl ?_
    refine WS.pv (pv_xor32 rfl rfl) rfl ?_
    refine WS.pv (pv_assign rfl) rfl ?_
    refine WS.done ?_
    refine QN.blockN ?_
    refine QN.thenW ?_
    refine WC.region ?_
    refine WL.pv (pv_move rfl) rfl ?_
    refine WL.pv (pv_add rfl rfl (by omega)) rfl ?_
    refine WL.pv (pv_assign rfl) rfl ?_
    refine WL.nil ?_
    refine QN.roundE ?_
    refine ⟨(k + 1), (Sub.cons rfl (Sub.cons rfl (Sub.cons hsub (Sub.cons rfl Sub.nil)))), ⟨by omega, hS⟩, ?_⟩
    first | omega | (dsimp only; omega)
  · skip
    obtain rfl : k = 3 := by omega
    refine WC.exit ?_
    refine QN.thenX ?_
    refine QN.thenX ?_
    refine QN.blockX ?_
    refine QN.thenW ?_
    refine WC.seq ?_
    refine WC.region ?_
    refine WL.pv (pv_move rfl) rfl ?_
    refine WL.pv (pv_assign rfl) rfl ?_
    refine WL.nil ?_
    refine QN.thenW ?_
    refine WC.ret ?_
    refine QN.ret1 rfl rfl ?_
    exact ⟨rfl, hS.fr⟩

end Go.Proofs.Ytjcebkhhgdgohaa
namespace Go.Proofs.Ytjcebkhhgdgohaa
open Go Go.RowKit Go.Eng
theorem aggT_137 : aggT Try.prog 137 = some 3 := by kernel_rfl
theorem cf_104 : callable Try.prog 104 = true := by kernel_rfl
theorem cf_105 : callable Try.prog 105 = true := by kernel_rfl
theorem cf_84 : callable Try.prog 84 = true := by kernel_rfl
theorem fvT_162_0 : fvT Try.prog 162 0 = some (0, 1, false) := by kernel_rfl
theorem slS_90 : (slT Try.prog 90).isSome = true := by kernel_rfl
theorem slT_90 : slT Try.prog 90 = some (91, 1, 4) := by kernel_rfl
theorem zeroT_137 : zeroT Try.prog 137 = some (List.replicate 3 (.int .i64 0)) := by kernel_rfl
theorem zeroT_91 : zeroT Try.prog 91 = some ([w32 0]) := by kernel_rfl
theorem zlenT_91 : (zeroT Try.prog 91).map List.length = some 1 := by kernel_rfl

def beginsS : ByteArray := { data := #[54, 97, 48, 57, 101, 54, 54, 55, 98, 98, 54, 55, 97, 101, 56, 53, 51, 99, 54, 101, 102, 51, 55, 50, 97, 53, 52, 102, 102, 53, 51, 97, 53, 49, 48, 101, 53, 50, 55, 102, 57, 98, 48, 53, 54, 56, 56, 99, 49, 102, 56, 51, 100, 57, 97, 98, 53, 98, 101, 48, 99, 100, 49, 57] }
def rndA : ByteArray := { data := ([52, 50, 56, 97, 50, 102, 57, 56, 55, 49, 51, 55, 52, 52, 57, 49, 98, 53, 99, 48, 102, 98, 99, 102, 101, 57, 98, 53, 100, 98, 97, 53, 51, 57, 53, 54, 99, 50, 53, 98, 53, 57, 102, 49, 49, 49, 102, 49, 57, 50, 51, 102, 56, 50, 97, 52, 97, 98, 49, 99, 53, 101, 100, 53].append [100, 56, 48, 55, 97, 97, 57, 56, 49, 50, 56, 51, 53, 98, 48, 49, 50, 52, 51, 49, 56, 53, 98, 101, 53, 53, 48, 99, 55, 100, 99, 51, 55, 50, 98, 101, 53, 100, 55, 52, 56, 48, 100, 101, 98, 49, 102, 101, 57, 98, 100, 99, 48, 54, 97, 55, 99, 49, 57, 98, 102, 49, 55, 52]).toArray }
def rndB : ByteArray := { data := ([101, 52, 57, 98, 54, 57, 99, 49, 101, 102, 98, 101, 52, 55, 56, 54, 48, 102, 99, 49, 57, 100, 99, 54, 50, 52, 48, 99, 97, 49, 99, 99, 50, 100, 101, 57, 50, 99, 54, 102, 52, 97, 55, 52, 56, 52, 97, 97, 53, 99, 98, 48, 97, 57, 100, 99, 55, 54, 102, 57, 56, 56, 100, 97].append [57, 56, 51, 101, 53, 49, 53, 50, 97, 56, 51, 49, 99, 54, 54, 100, 98, 48, 48, 51, 50, 55, 99, 56, 98, 102, 53, 57, 55, 102, 99, 55, 99, 54, 101, 48, 48, 98, 102, 51, 100, 53, 97, 55, 57, 49, 52, 55, 48, 54, 99, 97, 54, 51, 53, 49, 49, 52, 50, 57, 50, 57, 54, 55]).toArray }
def rndC : ByteArray := { data := ([50, 55, 98, 55, 48, 97, 56, 53, 50, 101, 49, 98, 50, 49, 51, 56, 52, 100, 50, 99, 54, 100, 102, 99, 53, 51, 51, 56, 48, 100, 49, 51, 54, 53, 48, 97, 55, 51, 53, 52, 55, 54, 54, 97, 48, 97, 98, 98, 56, 49, 99, 50, 99, 57, 50, 101, 57, 50, 55, 50, 50, 99, 56, 53].append [97, 50, 98, 102, 101, 56, 97, 49, 97, 56, 49, 97, 54, 54, 52, 98, 99, 50, 52, 98, 56, 98, 55, 48, 99, 55, 54, 99, 53, 49, 97, 51, 100, 49, 57, 50, 101, 56, 49, 57, 100, 54, 57, 57, 48, 54, 50, 52, 102, 52, 48, 101, 51, 53, 56, 53, 49, 48, 54, 97, 97, 48, 55, 48]).toArray }
def rndD : ByteArray := { data := ([49, 57, 97, 52, 99, 49, 49, 54, 49, 101, 51, 55, 54, 99, 48, 56, 50, 55, 52, 56, 55, 55, 52, 99, 51, 52, 98, 48, 98, 99, 98, 53, 51, 57, 49, 99, 48, 99, 98, 51, 52, 101, 100, 56, 97, 97, 52, 97, 53, 98, 57, 99, 99, 97, 52, 102, 54, 56, 50, 101, 54, 102, 102, 51].append [55, 52, 56, 102, 56, 50, 101, 101, 55, 56, 97, 53, 54, 51, 54, 102, 56, 52, 99, 56, 55, 56, 49, 52, 56, 99, 99, 55, 48, 50, 48, 56, 57, 48, 98, 101, 102, 102, 102, 97, 97, 52, 53, 48, 54, 99, 101, 98, 98, 101, 102, 57, 97, 51, 102, 55, 99, 54, 55, 49, 55, 56, 102, 50]).toArray }
def roundsS : ByteArray := rndA ++ rndB ++ rndC ++ rndD
theorem rndA_size : rndA.size = 128 := by decide +kernel
theorem rndB_size : rndB.size = 128 := by decide +kernel
theorem rndC_size : rndC.size = 128 := by decide +kernel
theorem rndD_size : rndD.size = 128 := by decide +kernel
theorem roundsS_size : roundsS.size = 512 := by rw [roundsS, ByteArray.size_append, ByteArray.size_append, ByteArray.size_append, rndA_size, rndB_size, rndC_size, rndD_size]
theorem beginsS_size : beginsS.size = 64 := by decide +kernel

set_option maxRecDepth 100000 in
theorem begins_c (w0 : World) : Calls Try.prog 59 #[] w0 fun e w => e = .returned (.string beginsS) ∧ w0 = w := by
  refine calls_of_WC (args := []) Try.func59 rfl Try.ntmps59 rfl ?_
  show WC _ _ _ _ [] _
  have hS := ST.start w0 No
  refine WC.seq ?_
  refine WC.region ?_
  refine WL.pv (pv_assign rfl) rfl ?_
  refine WL.nil ?_
  refine QN.thenW ?_
  refine WC.seq ?_
  refine WC.region ?_
  refine WL.pv (pv_assign rfl) rfl ?_
  refine WL.nil ?_
  refine QN.thenW ?_
  refine WC.ret ?_
  refine QN.ret1 rfl rfl ?_
  exact ⟨rfl, rfl⟩

set_option maxRecDepth 100000 in
theorem rounds_c (w0 : World) : Calls Try.prog 83 #[] w0 fun e w => e = .returned (.string roundsS) ∧ w0 = w := by
  refine calls_of_WC (args := []) Try.func83 rfl Try.ntmps83 rfl ?_
  show WC _ _ _ _ [] _
  have hS := ST.start w0 No
  refine WC.seq ?_
  refine WC.region ?_
  refine WL.pv (pv_assign rfl) rfl ?_
  refine WL.nil ?_
  refine QN.thenW ?_
  refine WC.seq ?_
  refine WC.region ?_
  refine WL.pv (pv_assign rfl) rfl ?_
  refine WL.nil ?_
  refine QN.thenW ?_
  refine WC.seq ?_
  refine WC.region ?_
  refine WL.pv (pv_move rfl) rfl ?_
  refine WL.pv (pv_addStr (a := rndA) (b := rndB) rfl rfl (by rw [rndA_size, rndB_size]; omega)) rfl ?_
  refine WL.pv (pv_assign rfl) rfl ?_
  refine WL.nil ?_
  refine QN.thenW ?_
  refine WC.seq ?_
  refine WC.region ?_
  refine WL.pv (pv_move rfl) rfl ?_
  refine WL.pv (pv_addStr (a := rndA ++ rndB) (b := rndC) rfl rfl (by rw [ByteArray.size_append, rndA_size, rndB_size, rndC_size]; omega)) rfl ?_
  refine WL.pv (pv_assign rfl) rfl ?_
  refine WL.nil ?_
  refine QN.thenW ?_
  refine WC.seq ?_
  refine WC.region ?_
  refine WL.pv (pv_move rfl) rfl ?_
  refine WL.pv (pv_addStr (a := rndA ++ rndB ++ rndC) (b := rndD) rfl rfl (by rw [ByteArray.size_append, ByteArray.size_append, rndA_size, rndB_size, rndC_size, rndD_size]; omega)) rfl ?_
  refine WL.pv (pv_assign rfl) rfl ?_
  refine WL.nil ?_
  refine QN.thenW ?_
  refine WC.seq ?_
  refine WC.region ?_
  refine WL.pv (pv_move rfl) rfl ?_
  refine WL.pv (pv_assign rfl) rfl ?_
  refine WL.nil ?_
  refine QN.thenW ?_
  refine WC.ret ?_
  refine QN.ret1 rfl rfl ?_
  exact ⟨rfl, rfl⟩

set_option maxRecDepth 100000 in
theorem two_c (x : UInt32) (a b c : Nat) (w0 : World) (ha : 0 < a ∧ a < 32) (hb : 0 < b ∧ b < 32) (hc : 0 < c ∧ c < 32) : Calls Try.prog 105 #[w32 x, .agg (int3 a b c).toArray] w0 fun e w => e = .returned (w32 (twoV x a b c)) ∧ Fr No w0 w := by
  refine calls_of_WC (args := [w32 x, .agg (int3 a b c).toArray]) Try.func105 rfl Try.ntmps105 rfl ?_
  show WC _ _ _ _ [(0, w32 x), (1, .agg (int3 a b c).toArray)] _
  have hS := ST.start w0 No
  refine WC.seq ?_
  refine WC.region ?_
  refine WL.box (vs := int3 a b c) hS rfl rfl rfl ?_
  intro b3 w hb3 hS
  refine WL.pv (pv_assign rfl) rfl ?_
  refine WL.nil ?_
  refine QN.thenW ?_
  refine WC.seq ?_
  refine WC.region ?_
  refine WL.pv (pv_move rfl) rfl ?_
  refine WL.pv (pv_indexAddrA1Z (j := 2) arrT_137 rfl rfl rfl (by omega)) rfl ?_
  refine WL.rv (rv_load_blk (k := 0) hS oneT_3 rfl rfl rfl) rfl ?_
  refine WL.pv (pv_sub rfl rfl (by omega)) rfl ?_
  refine WL.pv (pv_conv (n := (((32 - c : Nat)) : Int)) someT_3 Try.underlying164 (by rw [show ((32 - c : Nat) : Int) = 32 - (c : Int) from by omega]; rfl) (cv_u64 (32 - c) (by omega))) rfl ?_
  refine WL.pv (pv_shl32 (c := 32 - c) rfl rfl (by omega)) rfl ?_
  refine WL.pv (pv_assign rfl) rfl ?_
  refine WL.nil ?_
  refine QN.thenW ?_
  refine WC.seq ?_
  refine WC.region ?_
  refine WL.pv (pv_move rfl) rfl ?_
  refine WL.rv (rv_load_all (k := 0) hS rfl rfl (by rw [aggT_137]; rfl)) rfl ?_
  refine WL.call (args := [.tmp 12, .tmp 13]) cf_84 rfl rfl (three_c x a b c _ ha hb hc) ?_
  rintro _ w ⟨rfl, hF⟩
  refine ⟨_, rfl, ?_⟩
  replace hS := hS.no hF
  refine WL.pv (pv_move rfl) rfl ?_
  refine WL.pv (pv_xor32 rfl rfl) rfl ?_
  refine WL.pv (pv_assign rfl) rfl ?_
  refine WL.nil ?_
  refine QN.thenW ?_
  refine WC.ret ?_
  refine QN.ret1 rfl rfl ?_
  exact ⟨rfl, hS.fr⟩


def be32 (bl : List UInt8) (j : Nat) : UInt32 := (numBE ((bl.drop (4 * j)).take 4)).toUInt32
def spreadN (bl : List UInt8) (l : List UInt32) (k : Nat) : UInt32 :=
  if k < 16 then be32 bl k else l.getD (k - 16) 0 + twoV (l.getD (k - 15) 0) 7 18 3 + l.getD (k - 7) 0 + twoV (l.getD (k - 2) 0) 17 19 10
/-- A block's words. -/
def sprL (bl : List UInt8) : Nat → List UInt32
  | 0 => []
  | k + 1 => sprL bl k ++ [spreadN bl (sprL bl k) k]
theorem sprL_len (bl : List UInt8) (k : Nat) : (sprL bl k).length = k := by
  induction k with
  | zero => rfl
  | succ k ih => simp [sprL, ih]

set_option maxHeartbeats 1000000 in
set_option maxRecDepth 100000 in
theorem spread_c (A : Option Addr) (c : Nat) (bl : List UInt8) (w0 : World) (hb : Rs w0 (.slice A 64 c) 1 (bs8 bl)) (hl : bl.length = 64) : Calls Try.prog 82 #[.slice A 64 c] w0 (OwnPost (ws (sprL bl 64)) 91 w0) := by
  refine calls_of_WC (args := [.slice A 64 c]) Try.func82 rfl Try.ntmps82 rfl ?_
  show WC _ _ _ _ [(0, .slice A 64 c)] _
  have hS := ST.start w0 No
  refine WC.seq ?_
  refine WC.region ?_
  refine WL.pv (pv_assign rfl) rfl ?_
  refine WL.nil ?_
  refine QN.thenW ?_
  refine WC.seq ?_
  refine WC.region ?_
  refine WL.pv (pv_assign rfl) rfl ?_
  refine WL.nil ?_
  refine QN.thenW ?_
  refine WC.seq ?_
  refine WC.block ?_
  refine WC.loop (α := Nat × Value) (fun s => [(0, .slice A 64 c), (3, s.2)]) (fun s w => s.1 ≤ 16 ∧ ST w0 No w [.row s.2 91 1 (ws (sprL bl s.1))]) (fun s => 16 - s.1) ((0, .slice none 0 0)) (Sub.cons rfl (Sub.cons rfl Sub.nil)) ⟨by omega, hS.addNil 91 1⟩ ?_
  rintro ⟨k, v⟩ w N hN hR
  change N = 16 - k at hN
  change k ≤ 16 ∧ ST w0 No w [.row v 91 1 (ws (sprL bl k))] at hR
  show WC _ _ _ _ [(0, .slice A 64 c), (3, v)] _
  obtain ⟨hk, hS⟩ := hR
  obtain ⟨A', m, cp, rfl, hm, _, hmx⟩ := (hS.rw_ (k := 0) rfl).anyForm
  rw [ws_len, sprL_len, Nat.mul_one] at hm
  subst hm
  refine WC.seq ?_
  refine WC.seq ?_
  refine WC.region ?_
  refine WL.pv (pv_move rfl) rfl ?_
  refine WL.pv (pv_len slS_90 rfl) rfl ?_
  refine WL.pv (pv_lss rfl rfl) rfl ?_
  refine WL.nil ?_
  refine QN.thenW ?_
  refine WC.condD rfl (fun hc7 => ?_) (fun hc7 => ?_)
  · skip
    have hk16 : k < 16 := by omega
    refine WC.skip ?_
    refine QN.thenW ?_
    refine WC.block ?_
    refine WC.region ?_
    refine WL.pv (pv_move rfl) rfl ?_
    refine WL.pv (pv_move rfl) rfl ?_
    refine WL.pv (pv_move rfl) rfl ?_
    refine WL.pv (pv_len slS_90 rfl) rfl ?_
    refine WL.pv (pv_mul rfl rfl (by omega)) rfl ?_
    refine WL.call (args := [.tmp 9, .tmp 12, .const (.int .i64 4)]) cf_104 rfl rfl (takeNum_c A 64 c (4 * k) 4 bl _ (hb.no hS.fr) (by omega) (by omega) (by omega)) ?_
    rintro _ w ⟨rfl, hF⟩
    refine ⟨_, rfl, ?_⟩
    replace hS := hS.no hF
    refine WL.pv (pv_field1 fvT_162_0 rfl rfl) rfl ?_
    refine WL.pv (pv_conv someT_86 Try.underlying91 rfl (cv_64_32 _)) rfl ?_
    refine WL.build1 hS slT_90 zeroT_91 rfl rfl rfl rfl ?_
    intro b16 w hb16 hS
    refine WL.append (k := 1) (N := 65536) hS slT_90 zlenT_91 (by decide) rfl rfl rfl ((hS.bk (k := 0) rfl).rs 0 1 1 1 (by omega) (by simp [maxLen]) (by simp)) (by simp [Value.oneCell']) (by simp [ws_len, sprL_len]; omega) (by omega) (by simp [maxLen]) rfl ?_
    intro v1 w hFr17 hS
    try simp only [List.set] at hS
    replace hS := hS.erase 0
    simp only [List.eraseIdx_zero, List.tail_cons] at hS
    rw [show List.take (1 * 1) (List.drop 0 [w32 (numBE ((bl.drop (4 * k)).take 4)).toUInt32]) = [w32 (spreadN bl (sprL bl k) k)] from by rw [spreadN, if_pos hk16]; rfl, ws_snoc] at hS
    change ST w0 No w [.row v1 91 1 (ws (sprL bl (k + 1)))] at hS
    refine WL.pv (pv_assign rfl) rfl ?_
    refine WL.nil ?_
    refine QN.blockN ?_
    refine QN.roundE ?_
    refine ⟨((k + 1, v1)), (Sub.cons rfl (Sub.cons rfl Sub.nil)), ⟨by show k + 1 ≤ 16; omega, hS⟩, ?_⟩
    first | omega | (dsimp only; omega)
  · skip
    obtain rfl : k = 16 := by omega
    refine WC.exit ?_
    refine QN.thenX ?_
    refine QN.thenX ?_
    refine QN.blockX ?_
    refine QN.thenW ?_
    refine WC.seq ?_
    refine WC.seq ?_
    refine WC.region ?_
    refine WL.pv (pv_assign rfl) rfl ?_
    refine WL.nil ?_
    refine QN.thenW ?_
    refine WC.block ?_
    refine WC.loop (α := Nat × Value) (fun s => [(3, s.2), (4, .int .i64 (s.1 : Int))]) (fun s w => 16 ≤ s.1 ∧ s.1 ≤ 64 ∧ ST w0 No w [.row s.2 91 1 (ws (sprL bl s.1))]) (fun s => 64 - s.1) ((16, (.slice A' 16 cp))) (Sub.cons rfl (Sub.cons rfl Sub.nil)) ⟨by show 16 ≤ 16; omega, by show 16 ≤ 64; omega, hS⟩ ?_
    rintro ⟨k, v⟩ w N hN hR
    change N = 64 - k at hN
    change 16 ≤ k ∧ k ≤ 64 ∧ ST w0 No w [.row v 91 1 (ws (sprL bl k))] at hR
    show WC _ _ _ _ [(3, v), (4, .int .i64 (k : Int))] _
    obtain ⟨hk0, hk, hS⟩ := hR
    obtain ⟨g, m, cp, rfl, hm, _, hmx⟩ := (hS.rw_ (k := 0) rfl).formW (by rw [sprL_len]; omega)
    rw [sprL_len] at hm
    subst hm
    refine WC.seq ?_
    refine WC.seq ?_
    refine WC.region ?_
    refine WL.pv (pv_move rfl) rfl ?_
    refine WL.pv (pv_lss rfl rfl) rfl ?_
    refine WL.nil ?_
    refine QN.thenW ?_
    refine WC.condD rfl (fun hc19 => ?_) (fun hc19 => ?_)
    · skip
      have hk64 : m < 64 := by omega
      refine WC.skip ?_
      refine QN.thenW ?_
      refine WC.seq ?_
      refine WC.block ?_
      refine WC.draw (S := fun w => ∀ j u, (ws (sprL bl m))[j]? = some u → w.cell? ⟨g, 0 + j, none⟩ = some u) (fuel := 31) (listed := #[false, false, false, false, false, false, false, false, false, false, false, false, false, false, false, false, false, false, false, false, false, false, false, false, false, false, false, false, false, false, false]) mixedO rfl rfl ?_
      have hS := hS.no (Fr.drew _)
      have hC : ∀ j u, (ws (sprL bl m))[j]? = some u → (World.drew w).cell? ⟨g, 0 + j, none⟩ = some u := by
        obtain ⟨b', o', he, _, _, _, h4⟩ := (hS.rw_ (k := 0) rfl).rs.at_ (by rw [ws_len, sprL_len]; omega)
        injection he with he; injection he with e1 e2; subst e1; subst e2
        exact h4
      refine WH.take (listed' := #[true, false, false, false, false, false, false, false, false, false, false, false, false, false, false, false, false, false, false, false, false, false, false, false, false, false, false, false, false, false, false]) 0 rfl (by kernel_rfl) (by kernel_rfl) (by kernel_rfl) (fun _ _ _ h => h) rfl (fun w _ => PV.rv (pv_move rfl) w) hC rfl ?_
      refine WH.take (listed' := #[true, true, false, false, false, false, false, false, false, false, false, false, false, false, false, false, false, false, false, false, false, false, false, false, false, false, false, false, false, false, false]) 1 rfl (by kernel_rfl) (by kernel_rfl) (by kernel_rfl) (fun _ _ _ h => h) rfl (fun w _ => PV.rv (pv_move rfl) w) hC rfl ?_
      refine WH.take (listed' := #[true, true, true, false, false, false, false, false, false, false, false, false, false, false, false, false, false, false, false, false, false, false, false, false, false, false, false, false, false, false, false]) 2 rfl (by kernel_rfl) (by kernel_rfl) (by kernel_rfl) (fun _ _ _ h => h) rfl (fun w _ => PV.rv (pv_move rfl) w) hC rfl ?_
      refine WH.take (listed' := #[true, true, true, true, false, false, false, false, false, false, false, false, false, false, false, false, false, false, false, false, false, false, false, false, false, false, false, false, false, false, false]) 3 rfl (by kernel_rfl) (by kernel_rfl) (by kernel_rfl) (fun _ _ _ h => h) rfl (fun w _ => PV.rv (pv_sub rfl rfl (by omega)) w) hC rfl ?_
      refine WH.take (listed' := #[true, true, true, true, true, false, false, false, false, false, false, false, false, false, false, false, false, false, false, false, false, false, false, false, false, false, false, false, false, false, false]) 4 rfl (by kernel_rfl) (by kernel_rfl) (by kernel_rfl) (fun _ _ _ h => h) rfl (fun w _ => PV.rv (pv_indexAddrS1 (j := m - 16) slT_90 rfl rfl (by omega) (by omega)) w) hC rfl ?_
      refine WH.take (listed' := #[true, true, true, true, true, true, false, false, false, false, false, false, false, false, false, false, false, false, false, false, false, false, false, false, false, false, false, false, false, false, false]) 5 rfl (by kernel_rfl) (by kernel_rfl) (by kernel_rfl) (fun _ _ _ h => h) rfl (fun w hS => rv_load oneT_91 rfl (hS _ _ (ws_atD (by rw [sprL_len]; omega)))) hC rfl ?_
      refine WH.take (listed' := #[true, true, true, true, true, true, true, false, false, false, false, false, false, false, false, false, false, false, false, false, false, false, false, false, false, false, false, false, false, false, false]) 6 rfl (by kernel_rfl) (by kernel_rfl) (by kernel_rfl) (fun _ _ _ h => h) rfl (fun w _ => PV.rv (pv_move rfl) w) hC rfl ?_
      refine WH.take (listed' := #[true, true, true, true, true, true, true, true, false, false, false, false, false, false, false, false, false, false, false, false, false, false, false, false, false, false, false, false, false, false, false]) 7 rfl (by kernel_rfl) (by kernel_rfl) (by kernel_rfl) (fun _ _ _ h => h) rfl (fun w _ => PV.rv (pv_move rfl) w) hC rfl ?_
      refine WH.take (listed' := #[true, true, true, true, true, true, true, true, true, false, false, false, false, false, false, false, false, false, false, false, false, false, false, false, false, false, false, false, false, false, false]) 8 rfl (by kernel_rfl) (by kernel_rfl) (by kernel_rfl) (fun _ _ _ h => h) rfl (fun w _ => PV.rv (pv_sub rfl rfl (by omega)) w) hC rfl ?_
      refine WH.take (listed' := #[true, true, true, true, true, true, true, true, true, true, false, false, false, false, false, false, false, false, false, false, false, false, false, false, false, false, false, false, false, false, false]) 9 rfl (by kernel_rfl) (by kernel_rfl) (by kernel_rfl) (fun _ _ _ h => h) rfl (fun w _ => PV.rv (pv_indexAddrS1 (j := m - 15) slT_90 rfl rfl (by omega) (by omega)) w) hC rfl ?_
      refine WH.take (listed' := #[true, true, true, true, true, true, true, true, true, true, true, false, false, false, false, false, false, false, false, false, false, false, false, false, false, false, false, false, false, false, false]) 10 rfl (by kernel_rfl) (by kernel_rfl) (by kernel_rfl) (fun _ _ _ h => h) rfl (fun w hS => rv_load oneT_91 rfl (hS _ _ (ws_atD (by rw [sprL_len]; omega)))) hC rfl ?_
      refine WH.take (listed' := #[true, true, true, true, true, true, true, true, true, true, true, true, false, false, false, false, false, false, false, false, false, false, false, false, false, false, false, false, false, false, false]) 11 rfl (by kernel_rfl) (by kernel_rfl) (by kernel_rfl) (fun _ _ _ h => h) rfl (fun w _ => PV.rv (pv_buildA (parts := [(0, .const (.int .i64 7)), (1, .const (.int .i64 18)), (2, .const (.int .i64 3))]) (cells := int3 7 18 3) arrT_137 zeroT_137 rfl rfl) w) hC rfl ?_
      refine WH.take (listed' := #[true, true, true, true, true, true, true, true, true, true, true, true, false, false, true, false, false, false, false, false, false, false, false, false, false, false, false, false, false, false, false]) 14 rfl (by kernel_rfl) (by kernel_rfl) (by kernel_rfl) (fun _ _ _ h => h) rfl (fun w _ => PV.rv (pv_move rfl) w) hC rfl ?_
      refine WH.take (listed' := #[true, true, true, true, true, true, true, true, true, true, true, true, false, false, true, true, false, false, false, false, false, false, false, false, false, false, false, false, false, false, false]) 15 rfl (by kernel_rfl) (by kernel_rfl) (by kernel_rfl) (fun _ _ _ h => h) rfl (fun w _ => PV.rv (pv_move rfl) w) hC rfl ?_
      refine WH.take (listed' := #[true, true, true, true, true, true, true, true, true, true, true, true, false, false, true, true, true, false, false, false, false, false, false, false, false, false, false, false, false, false, false]) 16 rfl (by kernel_rfl) (by kernel_rfl) (by kernel_rfl) (fun _ _ _ h => h) rfl (fun w _ => PV.rv (pv_sub rfl rfl (by omega)) w) hC rfl ?_
      refine WH.take (listed' := #[true, true, true, true, true, true, true, true, true, true, true, true, false, false, true, true, true, true, false, false, false, false, false, false, false, false, false, false, false, false, false]) 17 rfl (by kernel_rfl) (by kernel_rfl) (by kernel_rfl) (fun _ _ _ h => h) rfl (fun w _ => PV.rv (pv_indexAddrS1 (j := m - 7) slT_90 rfl rfl (by omega) (by omega)) w) hC rfl ?_
      refine WH.take (listed' := #[true, true, true, true, true, true, true, true, true, true, true, true, false, false, true, true, true, true, true, false, false, false, false, false, false, false, false, false, false, false, false]) 18 rfl (by kernel_rfl) (by kernel_rfl) (by kernel_rfl) (fun _ _ _ h => h) rfl (fun w hS => rv_load oneT_91 rfl (hS _ _ (ws_atD (by rw [sprL_len]; omega)))) hC rfl ?_
      refine WH.take (listed' := #[true, true, true, true, true, true, true, true, true, true, true, true, false, false, true, true, true, true, true, false, true, false, false, false, false, false, false, false, false, false, false]) 20 rfl (by kernel_rfl) (by kernel_rfl) (by kernel_rfl) (fun _ _ _ h => h) rfl (fun w _ => PV.rv (pv_move rfl) w) hC rfl ?_
      refine WH.take (listed' := #[true, true, true, true, true, true, true, true, true, true, true, true, false, false, true, true, true, true, true, false, true, true, false, false, false, false, false, false, false, false, false]) 21 rfl (by kernel_rfl) (by kernel_rfl) (by kernel_rfl) (fun _ _ _ h => h) rfl (fun w _ => PV.rv (pv_move rfl) w) hC rfl ?_
      refine WH.take (listed' := #[true, true, true, true, true, true, true, true, true, true, true, true, false, false, true, true, true, true, true, false, true, true, true, false, false, false, false, false, false, false, false]) 22 rfl (by kernel_rfl) (by kernel_rfl) (by kernel_rfl) (fun _ _ _ h => h) rfl (fun w _ => PV.rv (pv_sub rfl rfl (by omega)) w) hC rfl ?_
      refine WH.take (listed' := #[true, true, true, true, true, true, true, true, true, true, true, true, false, false, true, true, true, true, true, false, true, true, true, true, false, false, false, false, false, false, false]) 23 rfl (by kernel_rfl) (by kernel_rfl) (by kernel_rfl) (fun _ _ _ h => h) rfl (fun w _ => PV.rv (pv_indexAddrS1 (j := m - 2) slT_90 rfl rfl (by omega) (by omega)) w) hC rfl ?_
      refine WH.take (listed' := #[true, true, true, true, true, true, true, true, true, true, true, true, false, false, true, true, true, true, true, false, true, true, true, true, true, false, false, false, false, false, false]) 24 rfl (by kernel_rfl) (by kernel_rfl) (by kernel_rfl) (fun _ _ _ h => h) rfl (fun w hS => rv_load oneT_91 rfl (hS _ _ (ws_atD (by rw [sprL_len]; omega)))) hC rfl ?_
      refine WH.take (listed' := #[true, true, true, true, true, true, true, true, true, true, true, true, false, false, true, true, true, true, true, false, true, true, true, true, true, true, false, false, false, false, false]) 25 rfl (by kernel_rfl) (by kernel_rfl) (by kernel_rfl) (fun _ _ _ h => h) rfl (fun w _ => PV.rv (pv_buildA (parts := [(0, .const (.int .i64 17)), (1, .const (.int .i64 19)), (2, .const (.int .i64 10))]) (cells := int3 17 19 10) arrT_137 zeroT_137 rfl rfl) w) hC rfl ?_
      refine WH.one (listed' := #[true, true, true, true, true, true, true, true, true, true, true, true, true, false, true, true, true, true, true, false, true, true, true, true, true, true, false, false, false, false, false]) 12 rfl (by kernel_rfl) rfl ?_
      refine WL.call (args := [.tmp 32, .tmp 33]) cf_105 rfl rfl (two_c _ 7 18 3 _ (by decide) (by decide) (by decide)) ?_
      rintro _ w ⟨rfl, hF⟩
      refine ⟨_, rfl, ?_⟩
      replace hS := hS.no hF
      replace hC : ∀ j u, (ws (sprL bl m))[j]? = some u → w.cell? ⟨g, 0 + j, none⟩ = some u := fun j u hu => hF.cellS (hC j u hu) (fun h => h)
      refine WL.nil ?_
      refine QN.held hC ?_
      refine WH.take (listed' := #[true, true, true, true, true, true, true, true, true, true, true, true, true, true, true, true, true, true, true, false, true, true, true, true, true, true, false, false, false, false, false]) 13 rfl (by kernel_rfl) (by kernel_rfl) (by kernel_rfl) (fun _ _ _ h => h) rfl (fun w _ => PV.rv (pv_add32 rfl rfl) w) hC rfl ?_
      refine WH.take (listed' := #[true, true, true, true, true, true, true, true, true, true, true, true, true, true, true, true, true, true, true, true, true, true, true, true, true, true, false, false, false, false, false]) 19 rfl (by kernel_rfl) (by kernel_rfl) (by kernel_rfl) (fun _ _ _ h => h) rfl (fun w _ => PV.rv (pv_add32 rfl rfl) w) hC rfl ?_
      refine WH.one (listed' := #[true, true, true, true, true, true, true, true, true, true, true, true, true, true, true, true, true, true, true, true, true, true, true, true, true, true, true, false, false, false, false]) 26 rfl (by kernel_rfl) rfl ?_
      refine WL.call (args := [.tmp 46, .tmp 47]) cf_105 rfl rfl (two_c _ 17 19 10 _ (by decide) (by decide) (by decide)) ?_
      rintro _ w ⟨rfl, hF⟩
      refine ⟨_, rfl, ?_⟩
      replace hS := hS.no hF
      replace hC : ∀ j u, (ws (sprL bl m))[j]? = some u → w.cell? ⟨g, 0 + j, none⟩ = some u := fun j u hu => hF.cellS (hC j u hu) (fun h => h)
      refine WL.nil ?_
      refine QN.held hC ?_
      refine WH.take (listed' := #[true, true, true, true, true, true, true, true, true, true, true, true, true, true, true, true, true, true, true, true, true, true, true, true, true, true, true, true, false, false, false]) 27 rfl (by kernel_rfl) (by kernel_rfl) (by kernel_rfl) (fun _ _ _ h => h) rfl (fun w _ => PV.rv (pv_add32 rfl rfl) w) hC rfl ?_
      refine WH.one (listed' := #[true, true, true, true, true, true, true, true, true, true, true, true, true, true, true, true, true, true, true, true, true, true, true, true, true, true, true, true, true, false, false]) 28 rfl (by kernel_rfl) rfl ?_
      refine WL.build1 hS slT_90 zeroT_91 rfl rfl rfl rfl ?_
      intro b50 w hb50 hS
      replace hC : ∀ j u, (ws (sprL bl m))[j]? = some u → w.cell? ⟨g, 0 + j, none⟩ = some u := by
        obtain ⟨b', o', he, _, _, _, h4⟩ := (hS.rw_ (k := 1) rfl).rs.at_ (by rw [ws_len, sprL_len]; omega)
        injection he with he; injection he with e1 e2; subst e1; subst e2
        exact h4
      refine WL.nil ?_
      refine QN.held hC ?_
      refine WH.one (listed' := #[true, true, true, true, true, true, true, true, true, true, true, true, true, true, true, true, true, true, true, true, true, true, true, true, true, true, true, true, true, true, false]) 29 rfl (by kernel_rfl) rfl ?_
      refine WL.appendK (k := 1) (N := 65536) hS slT_90 zlenT_91 (by decide) rfl rfl rfl ((hS.bk (k := 0) rfl).rs 0 1 1 1 (by omega) (by simp [maxLen]) (by simp)) (by simp [Value.oneCell']) (by simp [ws_len, sprL_len]; omega) (by omega) (by simp [maxLen]) rfl ?_
      intro v1 w hFr51 hS hkp
      try simp only [List.set] at hS
      replace hC : ∀ j u, (ws (sprL bl m))[j]? = some u → w.cell? ⟨g, 0 + j, none⟩ = some u := by
        obtain ⟨b', o', he, _, _, _, h4⟩ := hkp.at_ (by rw [ws_len, sprL_len]; omega)
        injection he with he; injection he with e1 e2; subst e1; subst e2
        exact h4
      replace hS := hS.erase 0
      simp only [List.eraseIdx_zero, List.tail_cons] at hS
      rw [show List.take (1 * 1) (List.drop 0 [w32 ((sprL bl m).getD (m - 16) 0 + twoV ((sprL bl m).getD (m - 15) 0) 7 18 3 + (sprL bl m).getD (m - 7) 0 + twoV ((sprL bl m).getD (m - 2) 0) 17 19 10)]) = [w32 (spreadN bl (sprL bl m) m)] from by rw [spreadN, if_neg (by omega)]; rfl, ws_snoc] at hS
      change ST w0 No w [.row v1 91 1 (ws (sprL bl (m + 1)))] at hS
      refine WL.nil ?_
      refine QN.held hC ?_
      refine WH.take (listed' := #[true, true, true, true, true, true, true, true, true, true, true, true, true, true, true, true, true, true, true, true, true, true, true, true, true, true, true, true, true, true, true]) 30 rfl (by kernel_rfl) (by kernel_rfl) (by kernel_rfl) (fun _ _ _ h => h) rfl (fun w _ => PV.rv (pv_assign rfl) w) hC rfl ?_
      refine WH.done (by kernel_rfl) ?_
      refine QN.blockN ?_
      refine QN.thenW ?_
      refine WC.region ?_
      refine WL.pv (pv_move rfl) rfl ?_
      refine WL.pv (pv_add rfl rfl (by omega)) rfl ?_
      refine WL.pv (pv_assign rfl) rfl ?_
      refine WL.nil ?_
      refine QN.roundE ?_
      refine ⟨((m + 1, v1)), (Sub.cons rfl (Sub.cons rfl Sub.nil)), ⟨by show 16 ≤ m + 1; omega, by show m + 1 ≤ 64; omega, hS⟩, ?_⟩
      first | omega | (dsimp only; omega)
    · skip
      obtain rfl : m = 64 := by omega
      refine WC.exit ?_
      refine QN.thenX ?_
      refine QN.thenX ?_
      refine QN.blockX ?_
      refine QN.thenW ?_
      refine WC.seq ?_
      refine WC.region ?_
      refine WL.pv (pv_move rfl) rfl ?_
      refine WL.pv (pv_assign rfl) rfl ?_
      refine WL.nil ?_
      refine QN.thenW ?_
      refine WC.ret ?_
      refine QN.ret1 rfl rfl ?_
      exact ⟨_, rfl, hS.fr, hS.rw_ (k := 0) rfl, fun b hb => (hS.own' (i := 0) rfl hb).resolve_right (fun h => h)⟩

end Go.Proofs.Ytjcebkhhgdgohaa
namespace Go.Proofs.Ytjcebkhhgdgohaa
open Go Go.RowKit Go.Eng
theorem cf_58 : callable Try.prog 58 = true := by kernel_rfl
theorem cf_61 : callable Try.prog 61 = true := by kernel_rfl
theorem cf_82 : callable Try.prog 82 = true := by kernel_rfl
theorem cf_83 : callable Try.prog 83 = true := by kernel_rfl

/-- Two rows of words that stand while calls run. -/
def Held (g o : Nat) (V : List UInt32) (g5 : Nat) (W : List UInt32) (w : World) : Prop :=
  (∀ j u, (ws V)[j]? = some u → w.cell? ⟨g, o + j, none⟩ = some u) ∧ ∀ j u, (ws W)[j]? = some u → w.cell? ⟨g5, 0 + j, none⟩ = some u
theorem Held.no {g o : Nat} {V : List UInt32} {g5 : Nat} {W : List UInt32} {w w' : World} (h : Held g o V g5 W w) (hF : Fr No w w') : Held g o V g5 W w' :=
  ⟨fun j u hu => hF.cellS (h.1 j u hu) (fun h => h), fun j u hu => hF.cellS (h.2 j u hu) (fun h => h)⟩
def choiceR (a b c : UInt32) : UInt32 := a &&& b ||| (4294967295 - a) &&& c
def mostR (a b c : UInt32) : UInt32 := a &&& b ||| a &&& c ||| b &&& c
def xR (V : List UInt32) (kn wn : UInt32) : UInt32 := V.getD 7 0 + threeV (V.getD 4 0) 6 11 25 + choiceR (V.getD 4 0) (V.getD 5 0) (V.getD 6 0) + kn + wn
def stepR (V : List UInt32) (kn wn : UInt32) : List UInt32 :=
  [xR V kn wn + threeV (V.getD 0 0) 2 13 22 + mostR (V.getD 0 0) (V.getD 1 0) (V.getD 2 0)] ++ V.take 3 ++ [V.getD 3 0 + xR V kn wn] ++ (V.drop 4).take 3
def rndR (f W : List UInt32) : Nat → List UInt32
  | 0 => f
  | n + 1 => stepR (rndR f W n) (hexW roundsS n) (W.getD n 0)
theorem rndR_len (f W : List UInt32) (hf : f.length = 8) (n : Nat) : (rndR f W n).length = 8 := by
  induction n with
  | zero => exact hf
  | succ n ih => simp [rndR, stepR, ih]
def outR (f V : List UInt32) (k : Nat) : List UInt32 := (List.range k).map fun i => f.getD i 0 + V.getD i 0
theorem outR_succ (f V : List UInt32) (k : Nat) : outR f V (k + 1) = outR f V k ++ [f.getD k 0 + V.getD k 0] := by simp [outR, List.range_succ]
theorem outR_len (f V : List UInt32) (k : Nat) : (outR f V k).length = k := by simp [outR]
/-- Eight words behind a block, by the document. -/
def behL (f : List UInt32) (bl : List UInt8) : List UInt32 := outR f (rndR f (sprL bl 64) 64) 8

set_option maxHeartbeats 1000000 in
set_option maxRecDepth 100000 in
theorem behind_c (gf of_ cf : Nat) (A : Option Addr) (c : Nat) (f : List UInt32) (bl : List UInt8) (w0 : World) (hf : Rs w0 (.slice (some ⟨gf, of_, none⟩) 8 cf) 1 (ws f)) (hfl : f.length = 8) (hb : Rs w0 (.slice A 64 c) 1 (bs8 bl)) (hbl : bl.length = 64) :
    Calls Try.prog 60 #[.slice (some ⟨gf, of_, none⟩) 8 cf, .slice A 64 c] w0 (OwnPost (ws (behL f bl)) 91 w0) := by
  obtain ⟨gf', of', hef, _, _, _, hfc⟩ := hf.at_ (by rw [ws_len]; omega)
  injection hef with hef; injection hef with e1 e2; subst e1; subst e2
  refine calls_of_WC (args := [.slice (some ⟨gf, of_, none⟩) 8 cf, .slice A 64 c]) Try.func60 rfl Try.ntmps60 rfl ?_
  show WC _ _ _ _ [(0, .slice (some ⟨gf, of_, none⟩) 8 cf), (1, .slice A 64 c)] _
  have hS := ST.start w0 No
  refine WC.seq ?_
  refine WC.region ?_
  refine WL.pv (pv_assign rfl) rfl ?_
  refine WL.nil ?_
  refine QN.thenW ?_
  refine WC.seq ?_
  refine WC.region ?_
  refine WL.pv (pv_move rfl) rfl ?_
  refine WL.call (args := [.tmp 15]) cf_82 rfl rfl (spread_c A c bl _ (hb.no hS.fr) hbl) ?_
  rintro _ w ⟨sv, rfl, hF, hsvR, hsvf⟩
  refine ⟨_, rfl, ?_⟩
  replace hS := hS.add (e := .row sv 91 1 (ws (sprL bl 64))) hF hsvR hsvf
  obtain ⟨g5, m5, c5, rfl, hm5, _, _⟩ := hsvR.formW (by rw [sprL_len]; omega)
  rw [sprL_len] at hm5
  subst hm5
  refine WL.pv (pv_assign rfl) rfl ?_
  refine WL.nil ?_
  refine QN.thenW ?_
  refine WC.seq ?_
  refine WC.region ?_
  refine WL.call (args := []) cf_83 rfl rfl (rounds_c _) ?_
  rintro _ w ⟨rfl, rfl⟩
  refine ⟨_, rfl, ?_⟩
  refine WL.pv (pv_assign rfl) rfl ?_
  refine WL.nil ?_
  refine QN.thenW ?_
  refine WC.seq ?_
  refine WC.region ?_
  refine WL.pv (pv_move rfl) rfl ?_
  refine WL.pv (pv_assign rfl) rfl ?_
  refine WL.nil ?_
  refine QN.thenW ?_
  refine WC.seq ?_
  refine WC.seq ?_
  refine WC.region ?_
  refine WL.pv (pv_assign rfl) rfl ?_
  refine WL.nil ?_
  refine QN.thenW ?_
  refine WC.block ?_
  refine WC.loop (α := Nat × Value) (fun s => [(0, .slice (some ⟨gf, of_, none⟩) 8 cf), (5, .slice (some ⟨g5, 0, none⟩) 64 c5), (6, .string roundsS), (7, s.2), (8, .int .i64 (s.1 : Int))]) (fun s w => s.1 ≤ 64 ∧ Fr No w0 w ∧ Rs w (.slice (some ⟨g5, 0, none⟩) 64 c5) 1 (ws (sprL bl 64)) ∧ Rs w s.2 1 (ws (rndR f (sprL bl 64) s.1))) (fun s => 64 - s.1) ((0, .slice (some ⟨gf, of_, none⟩) 8 cf)) (Sub.cons rfl (Sub.cons rfl (Sub.cons rfl (Sub.cons rfl (Sub.cons rfl Sub.nil))))) ⟨by show 0 ≤ 64; omega, hS.fr, (hS.rw_ (k := 0) rfl).rs, hf.no hS.fr⟩ ?_
  rintro ⟨n, v⟩ w N hN hR
  change N = 64 - n at hN
  change n ≤ 64 ∧ Fr No w0 w ∧ Rs w (.slice (some ⟨g5, 0, none⟩) 64 c5) 1 (ws (sprL bl 64)) ∧ Rs w v 1 (ws (rndR f (sprL bl 64) n)) at hR
  show WC _ _ _ _ [(0, .slice (some ⟨gf, of_, none⟩) 8 cf), (5, .slice (some ⟨g5, 0, none⟩) 64 c5), (6, .string roundsS), (7, v), (8, .int .i64 (n : Int))] _
  obtain ⟨hn, hF0, hsv, hv⟩ := hR
  have hlen := rndR_len f (sprL bl 64) hfl n
  obtain ⟨A', m', cv, rfl, _, _, _, _⟩ := id hv
  obtain ⟨g, o, rfl, hl8, hc1, hc2, hC⟩ := hv.at_ (by rw [ws_len]; omega)
  rw [ws_len, hlen] at hl8
  obtain rfl : m' = 8 := by omega
  obtain ⟨g5', o5', he5, _, _, _, hD⟩ := hsv.at_ (by rw [ws_len, sprL_len]; omega)
  injection he5 with he5; injection he5 with e1 e2; subst e1; subst e2
  have hWl := sprL_len bl 64
  generalize hWW : sprL bl 64 = WW at hsv hD hWl hv hlen hC
  generalize hVV : rndR f WW n = VV at hv hlen hC
  have hS := (ST.start w No).addNil 91 1
  refine WC.seq ?_
  refine WC.seq ?_
  refine WC.region ?_
  refine WL.pv (pv_move rfl) rfl ?_
  refine WL.pv (pv_lss rfl rfl) rfl ?_
  refine WL.nil ?_
  refine QN.thenW ?_
  refine WC.condD rfl (fun hc20 => ?_) (fun hc20 => ?_)
  · skip
    have hn64 : n < 64 := by omega
    refine WC.skip ?_
    refine QN.thenW ?_
    refine WC.seq ?_
    refine WC.block ?_
    refine WC.seq ?_
    refine WC.still mixedO (by kernel_rfl) ?_
    have hS := hS.no (Fr.drew _)
    refine WS.pv (pv_move rfl) rfl ?_
    refine WS.pv (pv_indexAddrS1 (j := 4) slT_90 rfl rfl rfl (by omega)) rfl ?_
    refine WS.rv (rv_load oneT_91 rfl (hS.fr.cellS (hC 4 _ (ws_atD (by omega))) (fun h => h))) rfl ?_
    refine WS.pv (pv_move rfl) rfl ?_
    refine WS.pv (pv_indexAddrS1 (j := 5) slT_90 rfl rfl rfl (by omega)) rfl ?_
    refine WS.rv (rv_load oneT_91 rfl (hS.fr.cellS (hC 5 _ (ws_atD (by omega))) (fun h => h))) rfl ?_
    refine WS.pv (pv_and32 rfl rfl) rfl ?_
    refine WS.pv (pv_move rfl) rfl ?_
    refine WS.pv (pv_indexAddrS1 (j := 4) slT_90 rfl rfl rfl (by omega)) rfl ?_
    refine WS.rv (rv_load oneT_91 rfl (hS.fr.cellS (hC 4 _ (ws_atD (by omega))) (fun h => h))) rfl ?_
    refine WS.pv (pv_sub32 (a := 4294967295) rfl rfl) rfl ?_
    refine WS.pv (pv_move rfl) rfl ?_
    refine WS.pv (pv_indexAddrS1 (j := 6) slT_90 rfl rfl rfl (by omega)) rfl ?_
    refine WS.rv (rv_load oneT_91 rfl (hS.fr.cellS (hC 6 _ (ws_atD (by omega))) (fun h => h))) rfl ?_
    refine WS.pv (pv_and32 rfl rfl) rfl ?_
    refine WS.pv (pv_or32 rfl rfl) rfl ?_
    refine WS.pv (pv_assign rfl) rfl ?_
    refine WS.done ?_
    refine QN.thenW ?_
    refine WC.seq ?_
    refine WC.still mixedO (by kernel_rfl) ?_
    have hS := hS.no (Fr.drew _)
    refine WS.pv (pv_move rfl) rfl ?_
    refine WS.pv (pv_indexAddrS1 (j := 0) slT_90 rfl rfl rfl (by omega)) rfl ?_
    refine WS.rv (rv_load oneT_91 rfl (hS.fr.cellS (hC 0 _ (ws_atD (by omega))) (fun h => h))) rfl ?_
    refine WS.pv (pv_move rfl) rfl ?_
    refine WS.pv (pv_indexAddrS1 (j := 1) slT_90 rfl rfl rfl (by omega)) rfl ?_
    refine WS.rv (rv_load oneT_91 rfl (hS.fr.cellS (hC 1 _ (ws_atD (by omega))) (fun h => h))) rfl ?_
    refine WS.pv (pv_and32 rfl rfl) rfl ?_
    refine WS.pv (pv_move rfl) rfl ?_
    refine WS.pv (pv_indexAddrS1 (j := 0) slT_90 rfl rfl rfl (by omega)) rfl ?_
    refine WS.rv (rv_load oneT_91 rfl (hS.fr.cellS (hC 0 _ (ws_atD (by omega))) (fun h => h))) rfl ?_
    refine WS.pv (pv_move rfl) rfl ?_
    refine WS.pv (pv_indexAddrS1 (j := 2) slT_90 rfl rfl rfl (by omega)) rfl ?_
    refine WS.rv (rv_load oneT_91 rfl (hS.fr.cellS (hC 2 _ (ws_atD (by omega))) (fun h => h))) rfl ?_
    refine WS.pv (pv_and32 rfl rfl) rfl ?_
    refine WS.pv (pv_or32 rfl rfl) rfl ?_
    refine WS.pv (pv_move rfl) rfl ?_
    refine WS.pv (pv_indexAddrS1 (j := 1) slT_90 rfl rfl rfl (by omega)) rfl ?_
    refine WS.rv (rv_load oneT_91 rfl (hS.fr.cellS (hC 1 _ (ws_atD (by omega))) (fun h => h))) rfl ?_
    refine WS.pv (pv_move rfl) rfl ?_
    refine WS.pv (pv_indexAddrS1 (j := 2) slT_90 rfl rfl rfl (by omega)) rfl ?_
    refine WS.rv (rv_load oneT_91 rfl (hS.fr.cellS (hC 2 _ (ws_atD (by omega))) (fun h => h))) rfl ?_
    refine WS.pv (pv_and32 rfl rfl) rfl ?_
    refine WS.pv (pv_or32 rfl rfl) rfl ?_
    refine WS.pv (pv_assign rfl) rfl ?_
    refine WS.done ?_
    refine QN.thenW ?_
    refine WC.seq ?_
    refine WC.draw (S := Held g o VV g5 WW) (fuel := 21) (listed := #[false, false, false, false, false, false, false, false, false, false, false, false, false, false, false, false, false, false, false, false, false]) mixedO rfl rfl ?_
    have hS := hS.no (Fr.drew _)
    have hH : Held g o VV g5 WW (World.drew _) := ⟨fun j u hu => hS.fr.cellS (hC j u hu) (fun h => h), fun j u hu => hS.fr.cellS (hD j u hu) (fun h => h)⟩
    refine WH.take (listed' := #[true, false, false, false, false, false, false, false, false, false, false, false, false, false, false, false, false, false, false, false, false]) 0 rfl (by kernel_rfl) (by kernel_rfl) (by kernel_rfl) (fun _ _ _ h => h) rfl (fun w _ => PV.rv (pv_move rfl) w) hH rfl ?_
    refine WH.take (listed' := #[true, true, false, false, false, false, false, false, false, false, false, false, false, false, false, false, false, false, false, false, false]) 1 rfl (by kernel_rfl) (by kernel_rfl) (by kernel_rfl) (fun _ _ _ h => h) rfl (fun w _ => PV.rv (pv_indexAddrS1 (j := 7) slT_90 rfl rfl rfl (by omega)) w) hH rfl ?_
    refine WH.take (listed' := #[true, true, true, false, false, false, false, false, false, false, false, false, false, false, false, false, false, false, false, false, false]) 2 rfl (by kernel_rfl) (by kernel_rfl) (by kernel_rfl) (fun _ _ _ h => h) rfl (fun w hS => rv_load oneT_91 rfl (hS.1 _ _ (ws_atD (by omega)))) hH rfl ?_
    refine WH.take (listed' := #[true, true, true, true, false, false, false, false, false, false, false, false, false, false, false, false, false, false, false, false, false]) 3 rfl (by kernel_rfl) (by kernel_rfl) (by kernel_rfl) (fun _ _ _ h => h) rfl (fun w _ => PV.rv (pv_move rfl) w) hH rfl ?_
    refine WH.take (listed' := #[true, true, true, true, true, false, false, false, false, false, false, false, false, false, false, false, false, false, false, false, false]) 4 rfl (by kernel_rfl) (by kernel_rfl) (by kernel_rfl) (fun _ _ _ h => h) rfl (fun w _ => PV.rv (pv_indexAddrS1 (j := 4) slT_90 rfl rfl rfl (by omega)) w) hH rfl ?_
    refine WH.take (listed' := #[true, true, true, true, true, true, false, false, false, false, false, false, false, false, false, false, false, false, false, false, false]) 5 rfl (by kernel_rfl) (by kernel_rfl) (by kernel_rfl) (fun _ _ _ h => h) rfl (fun w hS => rv_load oneT_91 rfl (hS.1 _ _ (ws_atD (by omega)))) hH rfl ?_
    refine WH.take (listed' := #[true, true, true, true, true, true, true, false, false, false, false, false, false, false, false, false, false, false, false, false, false]) 6 rfl (by kernel_rfl) (by kernel_rfl) (by kernel_rfl) (fun _ _ _ h => h) rfl (fun w _ => PV.rv (pv_buildA (parts := [(0, .const (.int .i64 6)), (1, .const (.int .i64 11)), (2, .const (.int .i64 25))]) (cells := int3 6 11 25) arrT_137 zeroT_137 rfl rfl) w) hH rfl ?_
    refine WH.take (listed' := #[true, true, true, true, true, true, true, false, false, true, false, false, false, false, false, false, false, false, false, false, false]) 9 rfl (by kernel_rfl) (by kernel_rfl) (by kernel_rfl) (fun _ _ _ h => h) rfl (fun w _ => PV.rv (pv_move rfl) w) hH rfl ?_
    refine WH.take (listed' := #[true, true, true, true, true, true, true, false, false, true, false, true, false, false, false, false, false, false, false, false, false]) 11 rfl (by kernel_rfl) (by kernel_rfl) (by kernel_rfl) (fun _ _ _ h => h) rfl (fun w _ => PV.rv (pv_move rfl) w) hH rfl ?_
    refine WH.take (listed' := #[true, true, true, true, true, true, true, false, false, true, false, true, true, false, false, false, false, false, false, false, false]) 12 rfl (by kernel_rfl) (by kernel_rfl) (by kernel_rfl) (fun _ _ _ h => h) rfl (fun w _ => PV.rv (pv_move rfl) w) hH rfl ?_
    refine WH.take (listed' := #[true, true, true, true, true, true, true, false, false, true, false, true, true, false, false, true, false, false, false, false, false]) 15 rfl (by kernel_rfl) (by kernel_rfl) (by kernel_rfl) (fun _ _ _ h => h) rfl (fun w _ => PV.rv (pv_move rfl) w) hH rfl ?_
    refine WH.take (listed' := #[true, true, true, true, true, true, true, false, false, true, false, true, true, false, false, true, true, false, false, false, false]) 16 rfl (by kernel_rfl) (by kernel_rfl) (by kernel_rfl) (fun _ _ _ h => h) rfl (fun w _ => PV.rv (pv_move rfl) w) hH rfl ?_
    refine WH.take (listed' := #[true, true, true, true, true, true, true, false, false, true, false, true, true, false, false, true, true, true, false, false, false]) 17 rfl (by kernel_rfl) (by kernel_rfl) (by kernel_rfl) (fun _ _ _ h => h) rfl (fun w _ => PV.rv (pv_indexAddrS1 slT_90 rfl rfl rfl (by omega)) w) hH rfl ?_
    refine WH.take (listed' := #[true, true, true, true, true, true, true, false, false, true, false, true, true, false, false, true, true, true, true, false, false]) 18 rfl (by kernel_rfl) (by kernel_rfl) (by kernel_rfl) (fun _ _ _ h => h) rfl (fun w hS => rv_load oneT_91 rfl (hS.2 _ _ (ws_atD (by omega)))) hH rfl ?_
    refine WH.one (listed' := #[true, true, true, true, true, true, true, true, false, true, false, true, true, false, false, true, true, true, true, false, false]) 7 rfl (by kernel_rfl) rfl ?_
    refine WL.call (args := [.tmp 67, .tmp 68]) cf_84 rfl rfl (three_c _ 6 11 25 _ (by decide) (by decide) (by decide)) ?_
    rintro _ w ⟨rfl, hF⟩
    refine ⟨_, rfl, ?_⟩
    replace hS := hS.no hF
    replace hH := hH.no hF
    refine WL.nil ?_
    refine QN.held hH ?_
    refine WH.take (listed' := #[true, true, true, true, true, true, true, true, true, true, false, true, true, false, false, true, true, true, true, false, false]) 8 rfl (by kernel_rfl) (by kernel_rfl) (by kernel_rfl) (fun _ _ _ h => h) rfl (fun w _ => PV.rv (pv_add32 rfl rfl) w) hH rfl ?_
    refine WH.take (listed' := #[true, true, true, true, true, true, true, true, true, true, true, true, true, false, false, true, true, true, true, false, false]) 10 rfl (by kernel_rfl) (by kernel_rfl) (by kernel_rfl) (fun _ _ _ h => h) rfl (fun w _ => PV.rv (pv_add32 rfl rfl) w) hH rfl ?_
    refine WH.one (listed' := #[true, true, true, true, true, true, true, true, true, true, true, true, true, true, false, true, true, true, true, false, false]) 13 rfl (by kernel_rfl) rfl ?_
    refine WL.call (args := [.tmp 73, .tmp 74]) cf_58 rfl rfl (word_c roundsS n _ (by rw [roundsS_size]; omega) (by rw [roundsS_size]; omega)) ?_
    rintro _ w ⟨rfl, hF⟩
    refine ⟨_, rfl, ?_⟩
    replace hS := hS.no hF
    replace hH := hH.no hF
    refine WL.nil ?_
    refine QN.held hH ?_
    refine WH.take (listed' := #[true, true, true, true, true, true, true, true, true, true, true, true, true, true, true, true, true, true, true, false, false]) 14 rfl (by kernel_rfl) (by kernel_rfl) (by kernel_rfl) (fun _ _ _ h => h) rfl (fun w _ => PV.rv (pv_add32 rfl rfl) w) hH rfl ?_
    refine WH.take (listed' := #[true, true, true, true, true, true, true, true, true, true, true, true, true, true, true, true, true, true, true, true, false]) 19 rfl (by kernel_rfl) (by kernel_rfl) (by kernel_rfl) (fun _ _ _ h => h) rfl (fun w _ => PV.rv (pv_add32 rfl rfl) w) hH rfl ?_
    refine WH.take (listed' := #[true, true, true, true, true, true, true, true, true, true, true, true, true, true, true, true, true, true, true, true, true]) 20 rfl (by kernel_rfl) (by kernel_rfl) (by kernel_rfl) (fun _ _ _ h => h) rfl (fun w _ => PV.rv (pv_assign rfl) w) hH rfl ?_
    refine WH.done (by kernel_rfl) ?_
    refine QN.thenW ?_
    refine WC.seq ?_
    refine WC.region ?_
    refine WL.pv (pv_assign rfl) rfl ?_
    refine WL.nil ?_
    refine QN.thenW ?_
    refine WC.seq ?_
    refine WC.region ?_
    refine WL.pv (pv_move rfl) rfl ?_
    refine WL.pv (pv_move rfl) rfl ?_
    refine WL.pv (pv_move rfl) rfl ?_
    refine WL.pv (pv_indexAddrS1 (j := 0) slT_90 rfl rfl rfl (by omega)) rfl ?_
    refine WL.rv (rv_load oneT_91 rfl (hS.fr.cellS (hC 0 _ (ws_atD (by omega))) (fun h => h))) rfl ?_
    refine WL.pv (pv_buildA (parts := [(0, .const (.int .i64 2)), (1, .const (.int .i64 13)), (2, .const (.int .i64 22))]) (cells := int3 2 13 22) arrT_137 zeroT_137 rfl rfl) rfl ?_
    refine WL.call (args := [.tmp 86, .tmp 87]) cf_84 rfl rfl (three_c _ 2 13 22 _ (by decide) (by decide) (by decide)) ?_
    rintro _ w ⟨rfl, hF⟩
    refine ⟨_, rfl, ?_⟩
    replace hS := hS.no hF
    refine WL.pv (pv_add32 rfl rfl) rfl ?_
    refine WL.pv (pv_move rfl) rfl ?_
    refine WL.pv (pv_add32 rfl rfl) rfl ?_
    refine WL.build1 hS slT_90 zeroT_91 rfl rfl rfl rfl ?_
    intro b92 w hb92 hS
    refine WL.append (k := 1) (N := 65536) hS slT_90 zlenT_91 (by decide) rfl rfl rfl ((hS.bk (k := 0) rfl).rs 0 1 1 1 (by omega) (by simp [maxLen]) (by simp)) (by simp [Value.oneCell']) (by simp) (by omega) (by simp [maxLen]) rfl ?_
    intro v1 w hFr93 hS
    try simp only [List.set] at hS
    replace hS := hS.erase 0
    simp only [List.eraseIdx_zero, List.tail_cons] at hS
    refine WL.pv (pv_assign rfl) rfl ?_
    refine WL.nil ?_
    refine QN.thenW ?_
    refine WC.seq ?_
    refine WC.region ?_
    refine WL.pv (pv_move rfl) rfl ?_
    refine WL.pv (pv_move rfl) rfl ?_
    refine WL.pv (pv_sliceH (b := 3) slT_90 rfl rfl rfl (by omega)) rfl ?_
    refine WL.append (k := 0) (N := 65536) hS slT_90 zlenT_91 (by decide) rfl rfl rfl ((hv.no hS.fr).cutH (b := 3) (by omega)) (fun u hu => ws_one u (List.mem_of_mem_take hu)) (by simp [ws_len]; omega) (by omega) (by simp [maxLen]) rfl ?_
    intro v2 w hFr97 hS
    try simp only [List.set] at hS
    refine WL.pv (pv_assign rfl) rfl ?_
    refine WL.nil ?_
    refine QN.thenW ?_
    refine WC.seq ?_
    refine WC.region ?_
    refine WL.pv (pv_move rfl) rfl ?_
    refine WL.pv (pv_move rfl) rfl ?_
    refine WL.pv (pv_indexAddrS1 (j := 3) slT_90 rfl rfl rfl (by omega)) rfl ?_
    refine WL.rv (rv_load oneT_91 rfl (hS.fr.cellS (hC 3 _ (ws_atD (by omega))) (fun h => h))) rfl ?_
    refine WL.pv (pv_move rfl) rfl ?_
    refine WL.pv (pv_add32 rfl rfl) rfl ?_
    refine WL.build1 hS slT_90 zeroT_91 rfl rfl rfl rfl ?_
    intro b104 w hb104 hS
    refine WL.append (k := 1) (N := 65536) hS slT_90 zlenT_91 (by decide) rfl rfl rfl ((hS.bk (k := 0) rfl).rs 0 1 1 1 (by omega) (by simp [maxLen]) (by simp)) (by simp [Value.oneCell']) (by simp [ws_len]; omega) (by omega) (by simp [maxLen]) rfl ?_
    intro v3 w hFr105 hS
    try simp only [List.set] at hS
    replace hS := hS.erase 0
    simp only [List.eraseIdx_zero, List.tail_cons] at hS
    refine WL.pv (pv_assign rfl) rfl ?_
    refine WL.nil ?_
    refine QN.thenW ?_
    refine WC.seq ?_
    refine WC.region ?_
    refine WL.pv (pv_move rfl) rfl ?_
    refine WL.pv (pv_move rfl) rfl ?_
    refine WL.pv (pv_sliceLH (a := 4) (b := 7) slT_90 rfl rfl rfl rfl rfl (by omega) (by omega)) rfl ?_
    refine WL.append (k := 0) (N := 65536) hS slT_90 zlenT_91 (by decide) rfl rfl rfl ((hv.no hS.fr).cut (a := 4) (b := 7) (by omega) (by omega)) (fun u hu => ws_one u (List.mem_of_mem_drop (List.mem_of_mem_take hu))) (by simp [ws_len]; omega) (by omega) (by simp [maxLen]) rfl ?_
    intro v4 w hFr109 hS
    try simp only [List.set] at hS
    have e1 : ∀ a b : UInt32, (((([] ++ List.take (1 * 1) (List.drop 0 [w32 a])) ++ (ws VV).take 3) ++ List.take (1 * 1) (List.drop 0 [w32 b])) ++ List.take ((7 - 4) * 1) (List.drop (4 * 1) (ws VV))) = ws ([a] ++ VV.take 3 ++ [b] ++ (VV.drop 4).take 3) := fun a b => by simp [ws, List.map_take, List.map_drop]
    rw [e1] at hS
    change ST _ No w [.row v4 91 1 (ws (stepR VV (hexW roundsS n) (WW.getD n 0)))] at hS
    refine WL.pv (pv_assign rfl) rfl ?_
    refine WL.nil ?_
    refine QN.thenW ?_
    refine WC.region ?_
    refine WL.pv (pv_move rfl) rfl ?_
    refine WL.pv (pv_assign rfl) rfl ?_
    refine WL.nil ?_
    refine QN.blockN ?_
    refine QN.thenW ?_
    refine WC.region ?_
    refine WL.pv (pv_move rfl) rfl ?_
    refine WL.pv (pv_add rfl rfl (by omega)) rfl ?_
    refine WL.pv (pv_assign rfl) rfl ?_
    refine WL.nil ?_
    refine QN.roundE ?_
    refine ⟨((n + 1, v4)), (Sub.cons rfl (Sub.cons rfl (Sub.cons rfl (Sub.cons rfl (Sub.cons rfl Sub.nil))))), ⟨by show n + 1 ≤ 64; omega, hF0.trans hS.fr (fun _ _ h => h), hsv.no hS.fr, by
  have := (hS.rw_ (k := 0) rfl).rs
  rw [rndR, hVV]; exact this⟩, ?_⟩
    first | omega | (dsimp only; omega)
  · skip
    obtain rfl : n = 64 := by omega
    obtain ⟨wm, rfl⟩ : ∃ wm, wm = w := ⟨w, rfl⟩
    replace hS := (ST.start wm No).addNil 91 1
    refine WC.exit ?_
    refine QN.thenX ?_
    refine QN.thenX ?_
    refine QN.blockX ?_
    refine QN.thenW ?_
    refine WC.seq ?_
    refine WC.region ?_
    refine WL.pv (pv_assign rfl) rfl ?_
    refine WL.nil ?_
    refine QN.thenW ?_
    refine WC.seq ?_
    refine WC.seq ?_
    refine WC.region ?_
    refine WL.pv (pv_assign rfl) rfl ?_
    refine WL.nil ?_
    refine QN.thenW ?_
    refine WC.block ?_
    refine WC.loop (α := Nat × Value) (fun s => [(0, .slice (some ⟨gf, of_, none⟩) 8 cf), (7, .slice (some ⟨g, o, none⟩) 8 cv), (13, s.2), (14, .int .i64 (s.1 : Int))]) (fun s w => s.1 ≤ 8 ∧ ST wm No w [.row s.2 91 1 (ws (outR f VV s.1))]) (fun s => 8 - s.1) ((0, .slice none 0 0)) (Sub.cons rfl (Sub.cons rfl (Sub.cons rfl (Sub.cons rfl Sub.nil)))) ⟨by show 0 ≤ 8; omega, hS⟩ ?_
    rintro ⟨k, v⟩ w N hN hR
    change N = 8 - k at hN
    change k ≤ 8 ∧ ST wm No w [.row v 91 1 (ws (outR f VV k))] at hR
    show WC _ _ _ _ [(0, .slice (some ⟨gf, of_, none⟩) 8 cf), (7, .slice (some ⟨g, o, none⟩) 8 cv), (13, v), (14, .int .i64 (k : Int))] _
    obtain ⟨hk, hS⟩ := hR
    refine WC.seq ?_
    refine WC.seq ?_
    refine WC.region ?_
    refine WL.pv (pv_move rfl) rfl ?_
    refine WL.pv (pv_lss rfl rfl) rfl ?_
    refine WL.nil ?_
    refine QN.thenW ?_
    refine WC.condD rfl (fun hc112 => ?_) (fun hc112 => ?_)
    · skip
      have hk8 : k < 8 := by omega
      refine WC.skip ?_
      refine QN.thenW ?_
      refine WC.seq ?_
      refine WC.block ?_
      refine WC.draw (S := fun w => Fr No wm w) (fuel := 13) (listed := #[false, false, false, false, false, false, false, false, false, false, false, false, false]) mixedO rfl rfl ?_
      have hS := hS.no (Fr.drew _)
      refine WH.take (listed' := #[true, false, false, false, false, false, false, false, false, false, false, false, false]) 0 rfl (by kernel_rfl) (by kernel_rfl) (by kernel_rfl) (fun _ _ _ h => h) rfl (fun w _ => PV.rv (pv_move rfl) w) hS.fr rfl ?_
      refine WH.take (listed' := #[true, true, false, false, false, false, false, false, false, false, false, false, false]) 1 rfl (by kernel_rfl) (by kernel_rfl) (by kernel_rfl) (fun _ _ _ h => h) rfl (fun w _ => PV.rv (pv_move rfl) w) hS.fr rfl ?_
      refine WH.take (listed' := #[true, true, true, false, false, false, false, false, false, false, false, false, false]) 2 rfl (by kernel_rfl) (by kernel_rfl) (by kernel_rfl) (fun _ _ _ h => h) rfl (fun w _ => PV.rv (pv_move rfl) w) hS.fr rfl ?_
      refine WH.take (listed' := #[true, true, true, true, false, false, false, false, false, false, false, false, false]) 3 rfl (by kernel_rfl) (by kernel_rfl) (by kernel_rfl) (fun _ _ _ h => h) rfl (fun w _ => PV.rv (pv_indexAddrS1 slT_90 rfl rfl rfl (by omega)) w) hS.fr rfl ?_
      refine WH.take (listed' := #[true, true, true, true, true, false, false, false, false, false, false, false, false]) 4 rfl (by kernel_rfl) (by kernel_rfl) (by kernel_rfl) (fun _ _ _ h => h) rfl (fun w hS => rv_load oneT_91 rfl ((hF0.trans hS (fun _ _ h => h)).cellS (hfc k _ (ws_atD (by omega))) (fun h => h))) hS.fr rfl ?_
      refine WH.take (listed' := #[true, true, true, true, true, true, false, false, false, false, false, false, false]) 5 rfl (by kernel_rfl) (by kernel_rfl) (by kernel_rfl) (fun _ _ _ h => h) rfl (fun w _ => PV.rv (pv_move rfl) w) hS.fr rfl ?_
      refine WH.take (listed' := #[true, true, true, true, true, true, true, false, false, false, false, false, false]) 6 rfl (by kernel_rfl) (by kernel_rfl) (by kernel_rfl) (fun _ _ _ h => h) rfl (fun w _ => PV.rv (pv_move rfl) w) hS.fr rfl ?_
      refine WH.take (listed' := #[true, true, true, true, true, true, true, true, false, false, false, false, false]) 7 rfl (by kernel_rfl) (by kernel_rfl) (by kernel_rfl) (fun _ _ _ h => h) rfl (fun w _ => PV.rv (pv_indexAddrS1 slT_90 rfl rfl rfl (by omega)) w) hS.fr rfl ?_
      refine WH.take (listed' := #[true, true, true, true, true, true, true, true, true, false, false, false, false]) 8 rfl (by kernel_rfl) (by kernel_rfl) (by kernel_rfl) (fun _ _ _ h => h) rfl (fun w hS => rv_load oneT_91 rfl (hS.cellS (hC k _ (ws_atD (by omega))) (fun h => h))) hS.fr rfl ?_
      refine WH.take (listed' := #[true, true, true, true, true, true, true, true, true, true, false, false, false]) 9 rfl (by kernel_rfl) (by kernel_rfl) (by kernel_rfl) (fun _ _ _ h => h) rfl (fun w _ => PV.rv (pv_add32 rfl rfl) w) hS.fr rfl ?_
      refine WH.one (listed' := #[true, true, true, true, true, true, true, true, true, true, true, false, false]) 10 rfl (by kernel_rfl) rfl ?_
      refine WL.build1 hS slT_90 zeroT_91 rfl rfl rfl rfl ?_
      intro b125 w hb125 hS
      refine WL.nil ?_
      refine QN.held hS.fr ?_
      refine WH.one (listed' := #[true, true, true, true, true, true, true, true, true, true, true, true, false]) 11 rfl (by kernel_rfl) rfl ?_
      refine WL.append (k := 1) (N := 65536) hS slT_90 zlenT_91 (by decide) rfl rfl rfl ((hS.bk (k := 0) rfl).rs 0 1 1 1 (by omega) (by simp [maxLen]) (by simp)) (by simp [Value.oneCell']) (by simp [ws_len, outR_len]; omega) (by omega) (by simp [maxLen]) rfl ?_
      intro v1 w hFr126 hS
      try simp only [List.set] at hS
      replace hS := hS.erase 0
      simp only [List.eraseIdx_zero, List.tail_cons] at hS
      change ST wm No w [.row v1 91 1 (ws (outR f VV k) ++ [w32 (f.getD k 0 + VV.getD k 0)])] at hS
      rw [ws_snoc, ← outR_succ] at hS
      refine WL.nil ?_
      refine QN.held hS.fr ?_
      refine WH.take (listed' := #[true, true, true, true, true, true, true, true, true, true, true, true, true]) 12 rfl (by kernel_rfl) (by kernel_rfl) (by kernel_rfl) (fun _ _ _ h => h) rfl (fun w _ => PV.rv (pv_assign rfl) w) hS.fr rfl ?_
      refine WH.done (by kernel_rfl) ?_
      refine QN.blockN ?_
      refine QN.thenW ?_
      refine WC.region ?_
      refine WL.pv (pv_move rfl) rfl ?_
      refine WL.pv (pv_add rfl rfl (by omega)) rfl ?_
      refine WL.pv (pv_assign rfl) rfl ?_
      refine WL.nil ?_
      refine QN.roundE ?_
      refine ⟨((k + 1, v1)), (Sub.cons rfl (Sub.cons rfl (Sub.cons rfl (Sub.cons rfl Sub.nil)))), ⟨by show k + 1 ≤ 8; omega, hS⟩, ?_⟩
      first | omega | (dsimp only; omega)
    · skip
      obtain rfl : k = 8 := by omega
      refine WC.exit ?_
      refine QN.thenX ?_
      refine QN.thenX ?_
      refine QN.blockX ?_
      refine QN.thenW ?_
      refine WC.seq ?_
      refine WC.region ?_
      refine WL.pv (pv_move rfl) rfl ?_
      refine WL.pv (pv_assign rfl) rfl ?_
      refine WL.nil ?_
      refine QN.thenW ?_
      refine WC.ret ?_
      refine QN.ret1 rfl rfl ?_
      refine ⟨_, rfl, hF0.trans hS.fr (fun _ _ h => h), ?_, fun b hb => Nat.le_trans hF0.size ((hS.own' (i := 0) rfl hb).resolve_right (fun h => h))⟩
      rw [behL, hWW, hVV]; exact hS.rw_ (k := 0) rfl


/-- The zeros behind the mark. -/
def padN (m : Nat) : Nat := (119 - m % 64) % 64
def filL (bl : List UInt8) : List UInt8 := bl ++ [128] ++ List.replicate (padN bl.length) 0 ++ beB (8 * UInt64.ofNat bl.length) 8
theorem fillP_set (bl : List UInt8) (n k : Nat) (c : UInt8) (h : k < bl.length) (hn : bl.length ≤ n) (hc : c = bl[k]) : (bl.take k ++ List.replicate (n - k) 0).set k c = bl.take (k + 1) ++ List.replicate (n - (k + 1)) 0 := by
  subst hc
  rw [List.set_append_right _ _ (by simp; omega), show k - (bl.take k).length = 0 from by simp; omega, show n - k = (n - (k + 1)) + 1 from by omega, List.replicate_succ, List.set_cons_zero, List.take_succ_eq_append_getElem h, List.append_assoc]
  rfl
theorem fillP_end (bl : List UInt8) (z : Nat) (c : UInt8) : (bl.take bl.length ++ List.replicate (1 + bl.length + z - bl.length) 0).set bl.length c = bl ++ [c] ++ List.replicate z 0 := by
  rw [List.take_length, List.set_append_right _ _ (by omega), Nat.sub_self, show 1 + bl.length + z - bl.length = z + 1 from by omega, List.replicate_succ, List.set_cons_zero]
  simp

set_option maxHeartbeats 1000000 in
set_option maxRecDepth 100000 in
theorem filled_c (A : Option Addr) (m c : Nat) (bl : List UInt8) (w0 : World) (hb : Rs w0 (.slice A m c) 1 (bs8 bl)) (hbl : bl.length ≤ 10000) : Calls Try.prog 57 #[.slice A m c] w0 (OwnPost (bs8 (filL bl)) 5 w0) := by
  obtain ⟨hln, _, _⟩ := hb.len
  rw [bs8_len, Nat.mul_one] at hln
  have hpad2 : padN m < 64 := Nat.mod_lt _ (by decide)
  refine calls_of_WC (args := [.slice A m c]) Try.func57 rfl Try.ntmps57 rfl ?_
  show WC _ _ _ _ [(0, .slice A m c)] _
  have hS := ST.start w0 No
  refine WC.seq ?_
  refine WC.region ?_
  refine WL.pv (pv_assign rfl) rfl ?_
  refine WL.nil ?_
  refine QN.thenW ?_
  refine WC.seq ?_
  refine WC.region ?_
  refine WL.pv (pv_move rfl) rfl ?_
  refine WL.pv (pv_len slS_22 rfl) rfl ?_
  refine WL.pv (pv_add rfl rfl (by omega)) rfl ?_
  refine WL.pv (pv_assign rfl) rfl ?_
  refine WL.nil ?_
  refine QN.thenW ?_
  refine WC.seq ?_
  refine WC.block ?_
  refine WC.loop (α := Nat) (fun k => [(0, .slice A m c), (3, .int .i64 ((1 + m + k : Nat) : Int))]) (fun k w => k ≤ padN m ∧ ST w0 No w []) (fun k => padN m - k) (0) (Sub.cons rfl (Sub.cons (by simp [lk]) Sub.nil)) ⟨by omega, hS⟩ ?_
  rintro k w N hN hR
  obtain ⟨hk, hS⟩ := hR
  have hpad : padN m = (119 - m % 64) % 64 := rfl
  refine WC.seq ?_
  refine WC.seq ?_
  refine WC.region ?_
  refine WL.pv (pv_move rfl) rfl ?_
  refine WL.pv (pv_rem rfl rfl (by omega)) rfl ?_
  refine WL.pv (pv_neq rfl rfl) rfl ?_
  refine WL.nil ?_
  refine QN.thenW ?_
  refine WC.condD rfl (fun hc11 => ?_) (fun hc11 => ?_)
  · skip
    have hkz : k < padN m := by omega
    refine WC.skip ?_
    refine QN.thenW ?_
    refine WC.block ?_
    refine WC.region ?_
    refine WL.pv (pv_move rfl) rfl ?_
    refine WL.pv (pv_add rfl rfl (by omega)) rfl ?_
    refine WL.pv (pv_assign rfl) rfl ?_
    refine WL.nil ?_
    refine QN.blockN ?_
    refine QN.roundE ?_
    refine ⟨(k + 1), (Sub.cons rfl (Sub.cons rfl Sub.nil)), ⟨by omega, hS⟩, ?_⟩
    first | omega | (dsimp only; omega)
  · skip
    obtain rfl : k = padN m := by omega
    refine WC.exit ?_
    refine QN.thenX ?_
    refine QN.thenX ?_
    refine QN.blockX ?_
    refine QN.thenW ?_
    refine WC.seq ?_
    refine WC.region ?_
    refine WL.pv (pv_move rfl) rfl ?_
    refine WL.makeB hS slT_22 zeroT_5 (by simp) rfl rfl (by omega) (by simp [maxLen]; omega) rfl ?_
    intro bt w hbt hS
    rw [show (List.replicate (1 + m + padN m) [b8 0]).flatten = bs8 (bl.take 0 ++ List.replicate (1 + m + padN m - 0) 0) from by simp [bs8]] at hS
    refine WL.pv (pv_assign rfl) rfl ?_
    refine WL.nil ?_
    refine QN.thenW ?_
    refine WC.seq ?_
    refine WC.seq ?_
    refine WC.region ?_
    refine WL.pv (pv_assign rfl) rfl ?_
    refine WL.nil ?_
    refine QN.thenW ?_
    refine WC.block ?_
    refine WC.loop (α := Nat) (fun k => [(0, .slice A m c), (4, .slice (some ⟨bt, 0, none⟩) (1 + m + padN m) (1 + m + padN m)), (5, .int .i64 (k : Int))]) (fun k w => k ≤ m ∧ ST w0 No w [.blk bt 5 (bs8 (bl.take k ++ List.replicate (1 + m + padN m - k) 0))]) (fun k => m - k) (0) (Sub.cons rfl (Sub.cons rfl (Sub.cons rfl Sub.nil))) ⟨by omega, hS⟩ ?_
    rintro k w N hN hR
    obtain ⟨hk, hS⟩ := hR
    refine WC.seq ?_
    refine WC.seq ?_
    refine WC.region ?_
    refine WL.pv (pv_move rfl) rfl ?_
    refine WL.pv (pv_move rfl) rfl ?_
    refine WL.pv (pv_len slS_22 rfl) rfl ?_
    refine WL.pv (pv_lss rfl rfl) rfl ?_
    refine WL.nil ?_
    refine QN.thenW ?_
    refine WC.condD rfl (fun hc19 => ?_) (fun hc19 => ?_)
    · skip
      have hkm : k < m := by omega
      obtain ⟨b1, o1, rfl, _, hc1, hc2, hcell⟩ := hb.at_ (by rw [bs8_len]; omega)
      refine WC.skip ?_
      refine QN.thenW ?_
      refine WC.seq ?_
      refine WC.block ?_
      refine WC.region ?_
      refine WL.pv (pv_move rfl) rfl ?_
      refine WL.pv (pv_move rfl) rfl ?_
      refine WL.pv (pv_move rfl) rfl ?_
      refine WL.pv (pv_move rfl) rfl ?_
      refine WL.pv (pv_indexAddrS1 slT_22 rfl rfl rfl (by omega)) rfl ?_
      refine WL.rv (rv_load oneT_5 rfl (hS.fr.cellS (hcell k _ (bs8_at (by omega))) (fun h => h))) rfl ?_
      refine WL.pv (pv_indexAddrS1Z slT_22 rfl rfl rfl (by omega)) rfl ?_
      refine WL.store (k := 0) hS sizeT_5 rfl rfl rfl rfl (by rw [bs8_len]; simp; omega) ?_
      intro w hS
      try simp only [List.set] at hS
      rw [bs8_set, fillP_set bl _ k _ (by omega) (by omega) rfl] at hS
      refine WL.nil ?_
      refine QN.blockN ?_
      refine QN.thenW ?_
      refine WC.region ?_
      refine WL.pv (pv_move rfl) rfl ?_
      refine WL.pv (pv_add rfl rfl (by omega)) rfl ?_
      refine WL.pv (pv_assign rfl) rfl ?_
      refine WL.nil ?_
      refine QN.roundE ?_
      refine ⟨(k + 1), (Sub.cons rfl (Sub.cons rfl (Sub.cons rfl Sub.nil))), ⟨by omega, hS⟩, ?_⟩
      first | omega | (dsimp only; omega)
    · skip
      obtain rfl : k = m := by omega
      obtain rfl : k = bl.length := by omega
      refine WC.exit ?_
      refine QN.thenX ?_
      refine QN.thenX ?_
      refine QN.blockX ?_
      refine QN.thenW ?_
      refine WC.seq ?_
      refine WC.region ?_
      refine WL.pv (pv_move rfl) rfl ?_
      refine WL.pv (pv_move rfl) rfl ?_
      refine WL.pv (pv_len slS_22 rfl) rfl ?_
      refine WL.pv (pv_indexAddrS1Z slT_22 rfl rfl rfl (by omega)) rfl ?_
      refine WL.store (k := 0) hS sizeT_5 rfl rfl rfl rfl (by rw [bs8_len]; simp; omega) ?_
      intro w hS
      try simp only [List.set] at hS
      change ST w0 No w [.blk bt 5 ((bs8 (bl.take bl.length ++ List.replicate (1 + bl.length + padN bl.length - bl.length) 0)).set bl.length (b8 128))] at hS
      rw [bs8_set, fillP_end] at hS
      replace hS := hS.toRow (m := 1 + bl.length + padN bl.length) (sz := 1) (k := 0) rfl (by simp [bs8_len]; omega) (by simp only [maxLen]; omega)
      simp only [List.set] at hS
      refine WL.nil ?_
      refine QN.thenW ?_
      refine WC.seq ?_
      refine WC.region ?_
      refine WL.pv (pv_move rfl) rfl ?_
      refine WL.pv (pv_move rfl) rfl ?_
      refine WL.pv (pv_len slS_22 rfl) rfl ?_
      refine WL.pv (pv_conv someT_3 Try.underlying86 rfl (cv_i_64 _)) rfl ?_
      refine WL.pv (pv_mul64 (a := 8) rfl rfl) rfl ?_
      refine WL.call (args := [.tmp 37, .const (.int .i64 8)]) cf_61 rfl rfl (beBytes_c _ 8 _ (by omega)) ?_
      rintro _ w ⟨v8, rfl, hF, hR8, _⟩
      refine ⟨_, rfl, ?_⟩
      replace hS := hS.no hF
      refine WL.append (k := 0) (N := 65536) hS slT_22 zlenT_5 (by decide) rfl rfl rfl hR8.rs bs8_one (by simp [bs8_len, beB_len]; omega) (by omega) (by simp [maxLen]) rfl ?_
      intro v1 w hFr39 hS
      try simp only [List.set] at hS
      refine WL.pv (pv_assign rfl) rfl ?_
      refine WL.nil ?_
      refine QN.thenW ?_
      refine WC.seq ?_
      refine WC.region ?_
      refine WL.pv (pv_move rfl) rfl ?_
      refine WL.pv (pv_assign rfl) rfl ?_
      refine WL.nil ?_
      refine QN.thenW ?_
      refine WC.ret ?_
      refine QN.ret1 rfl rfl ?_
      refine ⟨_, rfl, hS.fr, ?_, fun b hb => (hS.own' (i := 0) rfl hb).resolve_right (fun h => h)⟩
      rw [filL, bs8_app]; exact hS.rw_ (k := 0) rfl

end Go.Proofs.Ytjcebkhhgdgohaa
namespace Go.Proofs.Ytjcebkhhgdgohaa
open Go Go.RowKit Go.Eng
theorem cf_21 : callable Try.prog 21 = true := by kernel_rfl
theorem cf_57 : callable Try.prog 57 = true := by kernel_rfl
theorem cf_59 : callable Try.prog 59 = true := by kernel_rfl
theorem cf_60 : callable Try.prog 60 = true := by kernel_rfl

def beginL (k : Nat) : List UInt32 := (List.range k).map fun i => hexW beginsS i
theorem beginL_succ (k : Nat) : beginL (k + 1) = beginL k ++ [hexW beginsS k] := by simp [beginL, List.range_succ]
theorem beginL_len (k : Nat) : (beginL k).length = k := by simp [beginL]
def hashP (T : List UInt8) : Nat → List UInt32
  | 0 => beginL 8
  | j + 1 => behL (hashP T j) ((T.drop (64 * j)).take 64)
theorem hashP_len (T : List UInt8) (j : Nat) : (hashP T j).length = 8 := by
  cases j with
  | zero => exact beginL_len 8
  | succ j => simp [hashP, behL, outR_len]
def keyF (s : List UInt32) (q : Nat) : UInt8 := (beB (s.getD (q / 4) 0).toUInt64 4).getD (q % 4) 0
theorem keyF_at (s : List UInt32) (i : Nat) {k : Nat} (hk : k < 4) : keyF s (4 * i + k) = (beB (s.getD i 0).toUInt64 4)[k]'(by rw [beB_len]; omega) := by
  rw [keyF, show (4 * i + k) / 4 = i from by omega, show (4 * i + k) % 4 = k from by omega]
  have h : k < (beB (s.getD i 0).toUInt64 4).length := by rw [beB_len]; omega
  rw [List.getD, List.getElem?_eq_getElem h]; rfl
def outS (s : List UInt32) : List UInt8 := (List.range 32).map (keyF s)
/-- The digest of a text, by the document. -/
def refV (bl : List UInt8) : List UInt8 := outS (hashP (filL bl) ((filL bl).length / 64))
theorem refV_len (bl : List UInt8) : (refV bl).length = 32 := by simp [refV, outS]
theorem filL_len (bl : List UInt8) : (filL bl).length = 64 * ((filL bl).length / 64) := by
  simp only [filL, padN, List.length_append, List.length_cons, List.length_nil, List.length_replicate, beB_len]; omega

set_option maxHeartbeats 1000000 in
set_option maxRecDepth 100000 in
theorem refSum_c (A : Option Addr) (m c : Nat) (bl : List UInt8) (w0 : World) (hb : Rs w0 (.slice A m c) 1 (bs8 bl)) (hbl : bl.length ≤ 10000) : Calls Try.prog 21 #[.slice A m c] w0 (KeyPost (refV bl) w0) := by
  refine calls_of_WC (args := [.slice A m c]) Try.func21 rfl Try.ntmps21 rfl ?_
  show WC _ _ _ _ [(0, .slice A m c)] _
  have hS := ST.start w0 No
  refine WC.seq ?_
  refine WC.region ?_
  refine WL.alloc hS zeroT_25 rfl ?_
  intro b2 w hb2 hS
  refine WL.nil ?_
  refine QN.thenW ?_
  refine WC.seq ?_
  refine WC.region ?_
  refine WL.pv (pv_move rfl) rfl ?_
  refine WL.call (args := [.tmp 10]) cf_57 rfl rfl (filled_c A m c bl _ (hb.no hS.fr) hbl) ?_
  rintro _ w ⟨tv, rfl, hF, hR, hfr⟩
  refine ⟨_, rfl, ?_⟩
  replace hS := (hS.add (e := .row tv 5 1 (bs8 (filL bl))) hF hR hfr).addNil 91 1
  have hTl := filL_len bl
  have hTs : (filL bl).length ≤ 20000 := by simp only [filL, padN, List.length_append, List.length_cons, List.length_nil, List.length_replicate, beB_len]; omega
  generalize hTT : filL bl = T at hS hTl hTs
  generalize hnb : T.length / 64 = nb at hTl
  clear hR
  refine WL.pv (pv_assign rfl) rfl ?_
  refine WL.nil ?_
  refine QN.thenW ?_
  refine WC.seq ?_
  refine WC.region ?_
  refine WL.pv (pv_assign rfl) rfl ?_
  refine WL.nil ?_
  refine QN.thenW ?_
  refine WC.seq ?_
  refine WC.seq ?_
  refine WC.region ?_
  refine WL.pv (pv_assign rfl) rfl ?_
  refine WL.nil ?_
  refine QN.thenW ?_
  refine WC.block ?_
  refine WC.loop (α := Nat × Value) (fun s => [(2, .pointer (some ⟨b2, 0, none⟩)), (3, tv), (4, s.2), (5, .int .i64 (s.1 : Int))]) (fun s w => s.1 ≤ 8 ∧ ST w0 No w [.row s.2 91 1 (ws (beginL s.1)), .row tv 5 1 (bs8 T), .blk b2 25 (List.replicate 32 (b8 0))]) (fun s => 8 - s.1) ((0, .slice none 0 0)) (Sub.cons rfl (Sub.cons rfl (Sub.cons rfl (Sub.cons rfl Sub.nil)))) ⟨by show 0 ≤ 8; omega, hS⟩ ?_
  rintro ⟨k, v⟩ w N hN hR
  change N = 8 - k at hN
  change k ≤ 8 ∧ ST w0 No w [.row v 91 1 (ws (beginL k)), .row tv 5 1 (bs8 T), .blk b2 25 (List.replicate 32 (b8 0))] at hR
  show WC _ _ _ _ [(2, .pointer (some ⟨b2, 0, none⟩)), (3, tv), (4, v), (5, .int .i64 (k : Int))] _
  obtain ⟨hk, hS⟩ := hR
  refine WC.seq ?_
  refine WC.seq ?_
  refine WC.region ?_
  refine WL.pv (pv_move rfl) rfl ?_
  refine WL.pv (pv_lss rfl rfl) rfl ?_
  refine WL.nil ?_
  refine QN.thenW ?_
  refine WC.condD rfl (fun hc13 => ?_) (fun hc13 => ?_)
  · skip
    have hk8 : k < 8 := by omega
    refine WC.skip ?_
    refine QN.thenW ?_
    refine WC.seq ?_
    refine WC.block ?_
    refine WC.region ?_
    refine WL.pv (pv_move rfl) rfl ?_
    refine WL.call (args := []) cf_59 rfl rfl (begins_c _) ?_
    rintro _ w ⟨rfl, rfl⟩
    refine ⟨_, rfl, ?_⟩
    refine WL.pv (pv_move rfl) rfl ?_
    refine WL.call (args := [.tmp 17, .tmp 18]) cf_58 rfl rfl (word_c beginsS k _ (by rw [beginsS_size]; omega) (by rw [beginsS_size]; omega)) ?_
    rintro _ w ⟨rfl, hF⟩
    refine ⟨_, rfl, ?_⟩
    replace hS := hS.no hF
    refine WL.build1 hS slT_90 zeroT_91 rfl rfl rfl rfl ?_
    intro b20 w hb20 hS
    refine WL.append (k := 1) (N := 65536) hS slT_90 zlenT_91 (by decide) rfl rfl rfl ((hS.bk (k := 0) rfl).rs 0 1 1 1 (by omega) (by simp [maxLen]) (by simp)) (by simp [Value.oneCell']) (by simp [ws_len, beginL_len]; omega) (by omega) (by simp [maxLen]) rfl ?_
    intro v1 w hFr21 hS
    try simp only [List.set] at hS
    replace hS := hS.erase 0
    simp only [List.eraseIdx_zero, List.tail_cons] at hS
    rw [show List.take (1 * 1) (List.drop 0 [w32 (hexW beginsS k)]) = [w32 (hexW beginsS k)] from rfl, ws_snoc, ← beginL_succ] at hS
    refine WL.pv (pv_assign rfl) rfl ?_
    refine WL.nil ?_
    refine QN.blockN ?_
    refine QN.thenW ?_
    refine WC.region ?_
    refine WL.pv (pv_move rfl) rfl ?_
    refine WL.pv (pv_add rfl rfl (by omega)) rfl ?_
    refine WL.pv (pv_assign rfl) rfl ?_
    refine WL.nil ?_
    refine QN.roundE ?_
    refine ⟨((k + 1, v1)), (Sub.cons rfl (Sub.cons rfl (Sub.cons rfl (Sub.cons rfl Sub.nil)))), ⟨by show k + 1 ≤ 8; omega, hS⟩, ?_⟩
    first | omega | (dsimp only; omega)
  · skip
    obtain rfl : k = 8 := by omega
    have htv : Rs w tv 1 (bs8 T) := (hS.rw_ (k := 1) rfl).rs
    replace hS := hS.erase 1
    simp only [List.eraseIdx_zero, List.eraseIdx_cons_succ, List.tail_cons] at hS
    refine WC.exit ?_
    refine QN.thenX ?_
    refine QN.thenX ?_
    refine QN.blockX ?_
    refine QN.thenW ?_
    refine WC.seq ?_
    refine WC.block ?_
    refine WC.loop (α := Nat × Value × Value) (fun s => [(2, .pointer (some ⟨b2, 0, none⟩)), (3, s.2.2), (4, s.2.1)]) (fun s w => s.1 ≤ nb ∧ Rs w s.2.2 1 (bs8 (T.drop (64 * s.1))) ∧ ST w0 No w [.row s.2.1 91 1 (ws (hashP T s.1)), .blk b2 25 (List.replicate 32 (b8 0))]) (fun s => nb - s.1) ((0, v, tv)) (Sub.cons rfl (Sub.cons rfl (Sub.cons rfl Sub.nil))) ⟨by show 0 ≤ nb; omega, htv, hS⟩ ?_
    rintro ⟨j, sv, tv⟩ w N hN hR
    change N = nb - j at hN
    change j ≤ nb ∧ Rs w tv 1 (bs8 (T.drop (64 * j))) ∧ ST w0 No w [.row sv 91 1 (ws (hashP T j)), .blk b2 25 (List.replicate 32 (b8 0))] at hR
    show WC _ _ _ _ [(2, .pointer (some ⟨b2, 0, none⟩)), (3, tv), (4, sv)] _
    obtain ⟨hj, htv, hS⟩ := hR
    have hsl := hashP_len T j
    obtain ⟨gs, ms, cs, rfl, hms, hcs, hcs2⟩ := (hS.rw_ (k := 0) rfl).formW (by omega)
    rw [hsl] at hms
    subst hms
    obtain ⟨At, mt, ct, rfl, _, _, _, _⟩ := id htv
    obtain ⟨hmt, hct, hct2⟩ := htv.len
    rw [bs8_len, List.length_drop, Nat.mul_one] at hmt
    have hmx : mt ≤ 9223372036854775807 := by omega
    refine WC.seq ?_
    refine WC.seq ?_
    refine WC.region ?_
    refine WL.pv (pv_move rfl) rfl ?_
    refine WL.pv (pv_len slS_22 rfl) rfl ?_
    refine WL.pv (pv_gtr rfl rfl) rfl ?_
    refine WL.nil ?_
    refine QN.thenW ?_
    refine WC.condD rfl (fun hc24 => ?_) (fun hc24 => ?_)
    · skip
      have hjn : j < nb := by omega
      have hb64 : ((T.drop (64 * j)).take 64).length = 64 := by simp; omega
      refine WC.skip ?_
      refine QN.thenW ?_
      refine WC.block ?_
      refine WC.seq ?_
      refine WC.region ?_
      refine WL.pv (pv_move rfl) rfl ?_
      refine WL.pv (pv_move rfl) rfl ?_
      refine WL.pv (pv_sliceH (b := 64) slT_22 rfl rfl rfl (by omega)) rfl ?_
      refine WL.call (args := [.tmp 25, .tmp 27]) cf_60 rfl rfl (behind_c gs 0 cs At ct (hashP T j) ((T.drop (64 * j)).take 64) _ (hS.rw_ (k := 0) rfl).rs hsl (by have := htv.cutH (b := 64) (by omega); rw [bs8, List.map_take]; exact this) hb64) ?_
      rintro _ w ⟨sv2, rfl, hF, hR2, hfr⟩
      refine ⟨_, rfl, ?_⟩
      replace hS := (hS.add (e := .row sv2 91 1 (ws (hashP T (j + 1)))) hF hR2 hfr).erase 1
      simp only [List.eraseIdx_zero, List.eraseIdx_cons_succ, List.tail_cons] at hS
      have htv2 := (htv.no hF).cut (a := 64) (b := mt) (by omega) (by omega)
      rw [show List.take ((mt - 64) * 1) (List.drop (64 * 1) (bs8 (T.drop (64 * j)))) = bs8 (T.drop (64 * (j + 1))) from by
        rw [List.take_of_length_le (by simp [bs8_len]; omega), bs8, ← List.map_drop, List.drop_drop]; rfl] at htv2
      refine WL.pv (pv_assign rfl) rfl ?_
      refine WL.nil ?_
      refine QN.thenW ?_
      refine WC.region ?_
      refine WL.pv (pv_move rfl) rfl ?_
      refine WL.pv (pv_sliceLH (a := 64) slT_22 rfl rfl rfl rfl rfl (by omega) (by omega)) rfl ?_
      refine WL.pv (pv_assign rfl) rfl ?_
      refine WL.nil ?_
      refine QN.blockN ?_
      refine QN.roundE ?_
      refine ⟨((j + 1, sv2, _)), (Sub.cons rfl (Sub.cons rfl (Sub.cons rfl Sub.nil))), ⟨by show j + 1 ≤ nb; omega, htv2, hS⟩, ?_⟩
      first | omega | (dsimp only; omega)
    · skip
      obtain rfl : j = nb := by omega
      refine WC.exit ?_
      refine QN.thenX ?_
      refine QN.thenX ?_
      refine QN.blockX ?_
      refine QN.thenW ?_
      refine WC.seq ?_
      refine WC.region ?_
      refine WL.pv (pv_buildA (parts := []) (cells := List.replicate 32 (b8 0)) arrT_25 zeroT_25 rfl rfl) rfl ?_
      refine WL.alloc hS zeroT_25 rfl ?_
      intro b6 w hb6 hS
      refine WL.storeAll (k := 0) (vs := List.replicate 32 (b8 0)) hS (by rw [sizeT_25]; simp) rfl rfl rfl (by simp [Value.oneCell']) (by simp) ?_
      intro w hS
      try simp only [List.set] at hS
      rw [bs8_rep, ← fillB_zero (keyF (hashP T j)) 32] at hS
      refine WL.nil ?_
      refine QN.thenW ?_
      refine WC.seq ?_
      refine WC.seq ?_
      refine WC.region ?_
      refine WL.pv (pv_assign rfl) rfl ?_
      refine WL.nil ?_
      refine QN.thenW ?_
      refine WC.block ?_
      refine WC.loop (α := Nat) (fun i => [(2, .pointer (some ⟨b2, 0, none⟩)), (4, .slice (some ⟨gs, 0, none⟩) 8 cs), (6, .pointer (some ⟨b6, 0, none⟩)), (7, .int .i64 (i : Int))]) (fun i w => i ≤ 8 ∧ ST w0 No w [.blk b6 25 (bs8 (fillB (keyF (hashP T j)) 32 (4 * i))), .row (.slice (some ⟨gs, 0, none⟩) 8 cs) 91 1 (ws (hashP T j)), .blk b2 25 (bs8 (fillB (keyF (hashP T j)) 32 0))]) (fun i => 8 - i) (0) (Sub.cons rfl (Sub.cons rfl (Sub.cons rfl (Sub.cons rfl Sub.nil)))) ⟨by omega, hS⟩ ?_
      rintro i w N hN hR
      obtain ⟨hi, hS⟩ := hR
      refine WC.seq ?_
      refine WC.seq ?_
      refine WC.region ?_
      refine WL.pv (pv_move rfl) rfl ?_
      refine WL.pv (pv_lss rfl rfl) rfl ?_
      refine WL.nil ?_
      refine QN.thenW ?_
      refine WC.condD rfl (fun hc33 => ?_) (fun hc33 => ?_)
      · skip
        have hi8 : i < 8 := by omega
        refine WC.skip ?_
        refine QN.thenW ?_
        refine WC.seq ?_
        refine WC.block ?_
        refine WC.seq ?_
        refine WC.region ?_
        refine WL.pv (pv_move rfl) rfl ?_
        refine WL.pv (pv_move rfl) rfl ?_
        refine WL.pv (pv_indexAddrS1 slT_90 rfl rfl rfl (by omega)) rfl ?_
        refine WL.rv (rv_load oneT_91 rfl (hS.rcell (k := 1) rfl (ws_atD (by omega)))) rfl ?_
        refine WL.pv (pv_conv someT_91 Try.underlying86 rfl (cv_32_64 _)) rfl ?_
        refine WL.call (args := [.tmp 40, .const (.int .i64 4)]) cf_61 rfl rfl (beBytes_c _ 4 _ (by omega)) ?_
        rintro _ w ⟨xv, rfl, hF, hRx, hfx⟩
        refine ⟨_, rfl, ?_⟩
        replace hS := hS.add (e := .row xv 5 1 (bs8 (beB ((hashP T j).getD i 0).toUInt64 4))) hF hRx hfx
        obtain ⟨gx, mx, cx, rfl, hmx4, _, _⟩ := hRx.form8 (by rw [beB_len]; omega)
        rw [beB_len] at hmx4
        subst hmx4
        refine WL.pv (pv_assign rfl) rfl ?_
        refine WL.nil ?_
        refine QN.thenW ?_
        refine WC.seq ?_
        refine WC.region ?_
        refine WL.pv (pv_assign rfl) rfl ?_
        refine WL.nil ?_
        refine QN.thenW ?_
        refine WC.block ?_
        refine WC.loop (α := Nat) (fun k => [(2, .pointer (some ⟨b2, 0, none⟩)), (4, .slice (some ⟨gs, 0, none⟩) 8 cs), (6, .pointer (some ⟨b6, 0, none⟩)), (7, .int .i64 (i : Int)), (8, .slice (some ⟨gx, 0, none⟩) 4 cx), (9, .int .i64 (k : Int))]) (fun k w => k ≤ 4 ∧ ST w0 No w [.row (.slice (some ⟨gx, 0, none⟩) 4 cx) 5 1 (bs8 (beB ((hashP T j).getD i 0).toUInt64 4)), .blk b6 25 (bs8 (fillB (keyF (hashP T j)) 32 (4 * i + k))), .row (.slice (some ⟨gs, 0, none⟩) 8 cs) 91 1 (ws (hashP T j)), .blk b2 25 (bs8 (fillB (keyF (hashP T j)) 32 0))]) (fun k => 4 - k) (0) (Sub.cons rfl (Sub.cons rfl (Sub.cons rfl (Sub.cons rfl (Sub.cons rfl (Sub.cons rfl Sub.nil)))))) ⟨by omega, hS⟩ ?_
        rintro k w N hN hR
        obtain ⟨hk, hS⟩ := hR
        refine WC.seq ?_
        refine WC.seq ?_
        refine WC.region ?_
        refine WL.pv (pv_move rfl) rfl ?_
        refine WL.pv (pv_lss rfl rfl) rfl ?_
        refine WL.nil ?_
        refine QN.thenW ?_
        refine WC.condD rfl (fun hc43 => ?_) (fun hc43 => ?_)
        · skip
          have hk4 : k < 4 := by omega
          refine WC.skip ?_
          refine QN.thenW ?_
          refine WC.seq ?_
          refine WC.block ?_
          refine WC.region ?_
          refine WL.pv (pv_move rfl) rfl ?_
          refine WL.pv (pv_mul rfl rfl (by omega)) rfl ?_
          refine WL.pv (pv_move rfl) rfl ?_
          refine WL.pv (pv_add rfl rfl (by omega)) rfl ?_
          refine WL.pv (pv_move rfl) rfl ?_
          refine WL.pv (pv_move rfl) rfl ?_
          refine WL.pv (pv_indexAddrS1 slT_22 rfl rfl rfl (by omega)) rfl ?_
          refine WL.rv (rv_load oneT_5 rfl (hS.rcell (k := 0) rfl (bs8_at (by rw [beB_len]; omega)))) rfl ?_
          refine WL.pv (pv_indexAddrA1Z (j := 4 * i + k) arrT_25 rfl rfl (by omega) (by omega)) rfl ?_
          refine WL.store (k := 1) hS sizeT_5 rfl rfl rfl rfl (by rw [bs8_len, fillB_len]; omega) ?_
          intro w hS
          try simp only [List.set] at hS
          rw [bs8_set, ← keyF_at _ i hk4, fillB_set (keyF (hashP T j))] at hS
          refine WL.nil ?_
          refine QN.blockN ?_
          refine QN.thenW ?_
          refine WC.region ?_
          refine WL.pv (pv_move rfl) rfl ?_
          refine WL.pv (pv_add rfl rfl (by omega)) rfl ?_
          refine WL.pv (pv_assign rfl) rfl ?_
          refine WL.nil ?_
          refine QN.roundE ?_
          refine ⟨(k + 1), (Sub.cons rfl (Sub.cons rfl (Sub.cons rfl (Sub.cons rfl (Sub.cons rfl (Sub.cons rfl Sub.nil)))))), ⟨by omega, hS⟩, ?_⟩
          first | omega | (dsimp only; omega)
        · skip
          obtain rfl : k = 4 := by omega
          replace hS := hS.erase 0
          simp only [List.eraseIdx_zero, List.tail_cons] at hS
          refine WC.exit ?_
          refine QN.thenX ?_
          refine QN.thenX ?_
          refine QN.blockX ?_
          refine QN.blockN ?_
          refine QN.thenW ?_
          refine WC.region ?_
          refine WL.pv (pv_move rfl) rfl ?_
          refine WL.pv (pv_add rfl rfl (by omega)) rfl ?_
          refine WL.pv (pv_assign rfl) rfl ?_
          refine WL.nil ?_
          refine QN.roundE ?_
          refine ⟨(i + 1), (Sub.cons rfl (Sub.cons rfl (Sub.cons rfl (Sub.cons rfl Sub.nil)))), ⟨by omega, hS⟩, ?_⟩
          first | omega | (dsimp only; omega)
      · skip
        obtain rfl : i = 8 := by omega
        refine WC.exit ?_
        refine QN.thenX ?_
        refine QN.thenX ?_
        refine QN.blockX ?_
        refine QN.thenW ?_
        refine WC.seq ?_
        refine WC.region ?_
        refine WL.rv (rv_load_all (k := 0) hS rfl rfl (by rw [aggT_25, bs8_len, fillB_len])) rfl ?_
        refine WL.storeAll (k := 2) (vs := bs8 (fillB (keyF (hashP T j)) 32 (4 * 8))) hS (by rw [sizeT_25, bs8_len, fillB_len]) rfl rfl rfl bs8_one (by simp [bs8_len, fillB_len]) ?_
        intro w hS
        try simp only [List.set] at hS
        refine WL.nil ?_
        refine QN.thenW ?_
        refine WC.ret ?_
        refine QN.retK (k := 2) rfl rfl hS rfl (by rw [aggT_25, bs8_len, fillB_len]) ?_
        refine ⟨?_, hS.fr⟩
        rw [refV, hTT, hnb, outS, show 4 * 8 = 32 from rfl, fillB_all]

set_option maxHeartbeats 1000000 in
set_option maxRecDepth 100000 in
theorem refBytes_c (l : List UInt8) (hl : l.length = 32) (w0 : World) : Calls Try.prog 63 #[.agg (bs8 l).toArray] w0 (OwnPost (bs8 l) 5 w0) := by
  refine calls_of_WC (args := [.agg (bs8 l).toArray]) Try.func63 rfl Try.ntmps63 rfl ?_
  show WC _ _ _ _ [(0, .agg (bs8 l).toArray)] _
  have hS := ST.start w0 No
  refine WC.seq ?_
  refine WC.region ?_
  refine WL.box (vs := bs8 l) hS rfl rfl rfl ?_
  intro b1 w hb1 hS
  refine WL.pv (pv_assign rfl) rfl ?_
  refine WL.nil ?_
  refine QN.thenW ?_
  refine WC.seq ?_
  refine WC.region ?_
  refine WL.makeB (c := 32) hS slT_22 zeroT_5 (by simp) rfl rfl (by omega) (by simp [maxLen]) rfl ?_
  intro b5 w hb5 hS
  rw [show (List.replicate 32 [b8 0]).flatten = bs8 (l.take 0 ++ List.replicate (32 - 0) 0) from by simp [bs8]] at hS
  refine WL.pv (pv_assign rfl) rfl ?_
  refine WL.nil ?_
  refine QN.thenW ?_
  refine WC.seq ?_
  refine WC.seq ?_
  refine WC.region ?_
  refine WL.pv (pv_assign rfl) rfl ?_
  refine WL.nil ?_
  refine QN.thenW ?_
  refine WC.block ?_
  refine WC.loop (α := Nat) (fun k => [(1, .pointer (some ⟨b1, 0, none⟩)), (3, .slice (some ⟨b5, 0, none⟩) 32 32), (4, .int .i64 (k : Int))]) (fun k w => k ≤ 32 ∧ ST w0 No w [.blk b5 5 (bs8 (l.take k ++ List.replicate (32 - k) 0)), .blk b1 25 (bs8 l)]) (fun k => 32 - k) (0) (Sub.cons rfl (Sub.cons rfl (Sub.cons rfl Sub.nil))) ⟨by omega, hS⟩ ?_
  rintro k w N hN hR
  obtain ⟨hk, hS⟩ := hR
  refine WC.seq ?_
  refine WC.seq ?_
  refine WC.region ?_
  refine WL.pv (pv_move rfl) rfl ?_
  refine WL.pv (pv_lss rfl rfl) rfl ?_
  refine WL.nil ?_
  refine QN.thenW ?_
  refine WC.condD rfl (fun hc7 => ?_) (fun hc7 => ?_)
  · skip
    have hk32 : k < 32 := by omega
    refine WC.skip ?_
    refine QN.thenW ?_
    refine WC.seq ?_
    refine WC.block ?_
    refine WC.region ?_
    refine WL.pv (pv_move rfl) rfl ?_
    refine WL.pv (pv_move rfl) rfl ?_
    refine WL.pv (pv_move rfl) rfl ?_
    refine WL.pv (pv_indexAddrA1Z arrT_25 rfl rfl rfl (by omega)) rfl ?_
    refine WL.rv (rv_load_blk (k := 1) hS oneT_5 rfl rfl (bs8_at (by omega))) rfl ?_
    refine WL.pv (pv_indexAddrS1Z slT_22 rfl rfl rfl (by omega)) rfl ?_
    refine WL.store (k := 0) hS sizeT_5 rfl rfl rfl rfl (by rw [bs8_len]; simp; omega) ?_
    intro w hS
    try simp only [List.set] at hS
    rw [bs8_set, fillP_set l 32 k _ (by omega) (by omega) rfl] at hS
    refine WL.nil ?_
    refine QN.blockN ?_
    refine QN.thenW ?_
    refine WC.region ?_
    refine WL.pv (pv_move rfl) rfl ?_
    refine WL.pv (pv_add rfl rfl (by omega)) rfl ?_
    refine WL.pv (pv_assign rfl) rfl ?_
    refine WL.nil ?_
    refine QN.roundE ?_
    refine ⟨(k + 1), (Sub.cons rfl (Sub.cons rfl (Sub.cons rfl Sub.nil))), ⟨by omega, hS⟩, ?_⟩
    first | omega | (dsimp only; omega)
  · skip
    obtain rfl : k = 32 := by omega
    refine WC.exit ?_
    refine QN.thenX ?_
    refine QN.thenX ?_
    refine QN.blockX ?_
    refine QN.thenW ?_
    refine WC.seq ?_
    refine WC.region ?_
    refine WL.pv (pv_move rfl) rfl ?_
    refine WL.pv (pv_assign rfl) rfl ?_
    refine WL.nil ?_
    refine QN.thenW ?_
    refine WC.ret ?_
    refine QN.ret1 rfl rfl ?_
    refine ⟨_, rfl, hS.fr, ?_, fun b hb => by injection hb with hb; subst hb; exact hb5⟩
    have h := (hS.bk (k := 0) rfl).toRw (m := 32) (sz := 1) (by simp [bs8_len, hl]) (by simp [maxLen])
    rw [List.take_of_length_le (by omega), Nat.sub_self, List.replicate_zero, List.append_nil] at h
    exact h

set_option maxHeartbeats 1000000 in
set_option maxRecDepth 100000 in
theorem refSums_c (A : Option Addr) (m c : Nat) (ls : List (List UInt8)) (w0 : World) (hl : RsL w0 (.slice A m c) ls) (hbl : ∀ k, (ls.take k).flatten.length ≤ 10000) : Calls Try.prog 24 #[.slice A m c] w0 (KeyPost (refV ls.flatten) w0) := by
  obtain ⟨vs, hvs, hvl, hall⟩ := hl
  have hln := hvs.len
  have hmx : m ≤ 9223372036854775807 := by have := hvs.len; simp only [maxLen] at this; omega
  refine calls_of_WC (args := [.slice A m c]) Try.func24 rfl Try.ntmps24 rfl ?_
  show WC _ _ _ _ [(0, .slice A m c)] _
  have hS := ST.start w0 No
  refine WC.seq ?_
  refine WC.region ?_
  refine WL.alloc hS zeroT_25 rfl ?_
  intro b2 w hb2 hS
  replace hS := hS.addNil 5 1
  refine WL.nil ?_
  refine QN.thenW ?_
  refine WC.seq ?_
  refine WC.region ?_
  refine WL.pv (pv_assign rfl) rfl ?_
  refine WL.nil ?_
  refine QN.thenW ?_
  refine WC.seq ?_
  refine WC.seq ?_
  refine WC.region ?_
  refine WL.pv (pv_assign rfl) rfl ?_
  refine WL.nil ?_
  refine QN.thenW ?_
  refine WC.block ?_
  refine WC.loop (α := Nat × Value) (fun s => [(0, .slice A m c), (2, .pointer (some ⟨b2, 0, none⟩)), (3, s.2), (4, .int .i64 (s.1 : Int))]) (fun s w => s.1 ≤ m ∧ ST w0 No w [.row s.2 5 1 (bs8 (ls.take s.1).flatten), .blk b2 25 (List.replicate 32 (b8 0))]) (fun s => m - s.1) ((0, .slice none 0 0)) (Sub.cons rfl (Sub.cons rfl (Sub.cons rfl (Sub.cons rfl Sub.nil)))) ⟨by show 0 ≤ m; omega, hS⟩ ?_
  rintro ⟨k, v⟩ w N hN hR
  change N = m - k at hN
  change k ≤ m ∧ ST w0 No w [.row v 5 1 (bs8 (ls.take k).flatten), .blk b2 25 (List.replicate 32 (b8 0))] at hR
  show WC _ _ _ _ [(0, .slice A m c), (2, .pointer (some ⟨b2, 0, none⟩)), (3, v), (4, .int .i64 (k : Int))] _
  obtain ⟨hk, hS⟩ := hR
  obtain ⟨A2, m2, c2, rfl, hm2, hc2, _⟩ := (hS.rw_ (k := 0) rfl).anyForm
  refine WC.seq ?_
  refine WC.seq ?_
  refine WC.region ?_
  refine WL.pv (pv_move rfl) rfl ?_
  refine WL.pv (pv_move rfl) rfl ?_
  refine WL.pv (pv_len slS_29 rfl) rfl ?_
  refine WL.pv (pv_lss rfl rfl) rfl ?_
  refine WL.nil ?_
  refine QN.thenW ?_
  refine WC.condD rfl (fun hc8 => ?_) (fun hc8 => ?_)
  · skip
    have hkm : k < m := by omega
    obtain ⟨bb, o, rfl, _, hc1, hc2, hcell⟩ := hvs.at_ (by omega)
    have hvk := hall k (by omega) (by omega)
    have e1 : (ls.take k).flatten ++ ls[k]'(by omega) = (ls.take (k + 1)).flatten := by rw [List.take_succ_eq_append_getElem (by omega), List.flatten_append, List.flatten_singleton]
    have hle := hbl (k + 1)
    rw [← e1, List.length_append] at hle
    refine WC.skip ?_
    refine QN.thenW ?_
    refine WC.seq ?_
    refine WC.block ?_
    refine WC.region ?_
    refine WL.pv (pv_move rfl) rfl ?_
    refine WL.pv (pv_move rfl) rfl ?_
    refine WL.pv (pv_move rfl) rfl ?_
    refine WL.pv (pv_indexAddrS1 slT_29 rfl rfl rfl (by omega)) rfl ?_
    refine WL.rv (rv_load oneT_22 rfl (hS.fr.cellS (hcell k _ (List.getElem?_eq_getElem (by omega))) (fun h => h))) rfl ?_
    refine WL.append (k := 0) (N := 65536) hS slT_22 zlenT_5 (by decide) rfl rfl rfl (hvk.no hS.fr) bs8_one (by rw [bs8_len, bs8_len]; omega) (by omega) (by simp [maxLen]) rfl ?_
    intro v1 w hFr16 hS
    try simp only [List.set] at hS
    rw [← bs8_app, e1] at hS
    refine WL.pv (pv_assign rfl) rfl ?_
    refine WL.nil ?_
    refine QN.blockN ?_
    refine QN.thenW ?_
    refine WC.region ?_
    refine WL.pv (pv_move rfl) rfl ?_
    refine WL.pv (pv_add rfl rfl (by omega)) rfl ?_
    refine WL.pv (pv_assign rfl) rfl ?_
    refine WL.nil ?_
    refine QN.roundE ?_
    refine ⟨((k + 1, v1)), (Sub.cons rfl (Sub.cons rfl (Sub.cons rfl (Sub.cons rfl Sub.nil)))), ⟨by show k + 1 ≤ m; omega, hS⟩, ?_⟩
    first | omega | (dsimp only; omega)
  · skip
    obtain rfl : k = m := by omega
    have e2 : ls.take k = ls := List.take_of_length_le (by omega)
    rw [e2] at hS
    refine WC.exit ?_
    refine QN.thenX ?_
    refine QN.thenX ?_
    refine QN.blockX ?_
    refine QN.thenW ?_
    refine WC.seq ?_
    refine WC.region ?_
    refine WL.pv (pv_move rfl) rfl ?_
    refine WL.call (args := [.tmp 17]) cf_21 rfl rfl (refSum_c _ _ _ ls.flatten _ (hS.rw_ (k := 0) rfl).rs (by have := hbl k; rwa [e2] at this)) ?_
    rintro _ w ⟨rfl, hF⟩
    refine ⟨_, rfl, ?_⟩
    replace hS := hS.no hF
    refine WL.storeAll (k := 1) (vs := bs8 (refV ls.flatten)) hS (by rw [sizeT_25, bs8_len, refV_len]) rfl rfl rfl bs8_one (by simp [bs8_len, refV_len]) ?_
    intro w hS
    try simp only [List.set] at hS
    refine WL.nil ?_
    refine QN.thenW ?_
    refine WC.ret ?_
    refine QN.retK (k := 1) rfl rfl hS rfl (by rw [aggT_25, bs8_len, refV_len]) ?_
    exact ⟨rfl, hS.fr⟩

end Go.Proofs.Ytjcebkhhgdgohaa
