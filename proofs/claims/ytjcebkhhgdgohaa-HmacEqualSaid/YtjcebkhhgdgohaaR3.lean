/- What a few functions of the program compute, part R3. -/
import Derived.Test.YtjcebkhhgdgohaaR2
import Derived.Test.YtjcebkhhgdgohaaEngM
namespace Go.Proofs.Ytjcebkhhgdgohaa
open Go Go.RowKit Go.Eng
theorem arrT_137 : arrT Try.prog 137 = some (3, 1) := by kernel_rfl

/-- x divided by 256 so often. -/
def divs (x : UInt64) : Nat → UInt64
  | 0 => x
  | k + 1 => divs x k / 256
/-- The lowest n bytes of a number, the highest first. -/
def beB (x : UInt64) (n : Nat) : List UInt8 := (List.range n).map fun j => (divs x (n - 1 - j) % 256).toUInt8
theorem beB_len (x : UInt64) (n : Nat) : (beB x n).length = n := by simp [beB]
/-- A row that fills from its end. -/
def fillE (f : Nat → UInt8) (N k : Nat) : List UInt8 := (List.range N).map fun j => if N ≤ j + k then f j else 0
theorem fillE_len (f : Nat → UInt8) (N k : Nat) : (fillE f N k).length = N := by simp [fillE]
theorem fillE_zero (f : Nat → UInt8) (N : Nat) : fillE f N 0 = List.replicate N 0 := by
  apply List.ext_getElem
  · simp [fillE]
  · intro i h1 h2; simp [fillE] at h1 ⊢; omega
theorem fillE_all (f : Nat → UInt8) (N : Nat) : fillE f N N = (List.range N).map f := by
  apply List.ext_getElem
  · simp [fillE]
  · intro i h1 h2; simp [fillE] at h1 ⊢
theorem fillE_set (f : Nat → UInt8) {N k : Nat} (h : k < N) (c : UInt8) (hc : c = f (N - 1 - k)) : (fillE f N k).set (N - 1 - k) c = fillE f N (k + 1) := by
  subst hc
  apply List.ext_getElem
  · simp [fillE]
  · intro i h1 h2
    simp only [fillE, List.getElem_set, List.getElem_map, List.getElem_range]
    simp [fillE] at h1
    by_cases h : N - 1 - k = i
    · subst h; rw [if_pos rfl, if_pos (by omega)]
    · rw [if_neg h]
      by_cases h3 : N ≤ i + k
      · rw [if_pos h3, if_pos (by omega)]
      · rw [if_neg h3, if_neg (by omega)]
def OwnPost (cs : List Value) (t : TypeId) (w0 : World) (e : Ending) (w : World) : Prop := ∃ v, e = .returned v ∧ Fr No w0 w ∧ Rw w v t 1 cs ∧ ∀ b, v.ownBlock = some b → w0.heap.size ≤ b
/-- A hexadecimal digit behind a number. -/
def hexD (n : UInt32) (c : UInt8) : UInt32 := if 97 ≤ c.toNat then 16 * n + (c - 97).toUInt32 + 10 else 16 * n + (c - 48).toUInt32
def hexP (s : ByteArray) (i : Nat) : Nat → UInt32
  | 0 => 0
  | k + 1 => hexD (hexP s i k) (s.data[8 * i + k]?.getD 0)
/-- The i-th word of a text of digits. -/
def hexW (s : ByteArray) (i : Nat) : UInt32 := hexP s i 8
theorem hexP_succ (s : ByteArray) (i k : Nat) (h : 8 * i + k < s.size) : hexP s i (k + 1) = hexD (hexP s i k) s[8 * i + k] := by
  have h' : 8 * i + k < s.data.size := h
  rw [hexP, Array.getElem?_eq_getElem h']; rfl

set_option maxRecDepth 100000 in
theorem beBytes_c (x : UInt64) (n : Nat) (w0 : World) (hn : n ≤ 8) : Calls Try.prog 61 #[w64 x, .int .i64 (n : Int)] w0 (OwnPost (bs8 (beB x n)) 5 w0) := by
  refine calls_of_WC (args := [w64 x, .int .i64 (n : Int)]) Try.func61 rfl Try.ntmps61 rfl ?_
  show WC _ _ _ _ [(0, w64 x), (1, .int .i64 (n : Int))] _
  have hS := ST.start w0 No
  refine WC.seq ?_
  refine WC.region ?_
  refine WL.pv (pv_assign rfl) rfl ?_
  refine WL.nil ?_
  refine QN.thenW ?_
  refine WC.seq ?_
  refine WC.region ?_
  refine WL.pv (pv_move rfl) rfl ?_
  refine WL.makeB hS slT_22 zeroT_5 (by simp) rfl rfl (by omega) (by simp [maxLen]; omega) rfl ?_
  intro bo w hbo hS
  rw [show (List.replicate n [b8 0]).flatten = bs8 (fillE (fun j => (divs x (n - 1 - j) % 256).toUInt8) n 0) from by rw [fillE_zero]; simp [bs8]] at hS
  refine WL.pv (pv_assign rfl) rfl ?_
  refine WL.nil ?_
  refine QN.thenW ?_
  refine WC.seq ?_
  refine WC.seq ?_
  refine WC.region ?_
  refine WL.pv (pv_move rfl) rfl ?_
  refine WL.pv (pv_sub rfl rfl (by omega)) rfl ?_
  refine WL.pv (pv_assign rfl) rfl ?_
  refine WL.nil ?_
  refine QN.thenW ?_
  refine WC.block ?_
  refine WC.loop (α := Nat) (fun k => [(0, w64 (divs x k)), (1, .int .i64 (n : Int)), (5, .slice (some ⟨bo, 0, none⟩) n n), (6, .int .i64 ((n : Int) - 1 - (k : Int)))]) (fun k w => k ≤ n ∧ ST w0 No w [.blk bo 5 (bs8 (fillE (fun j => (divs x (n - 1 - j) % 256).toUInt8) n k))]) (fun k => n - k) (0) (Sub.cons rfl (Sub.cons rfl (Sub.cons rfl (Sub.cons (by simp [lk]) Sub.nil)))) ⟨by omega, hS⟩ ?_
  rintro k w N hN hR
  obtain ⟨hk, hS⟩ := hR
  refine WC.seq ?_
  refine WC.seq ?_
  refine WC.region ?_
  refine WL.pv (pv_move rfl) rfl ?_
  refine WL.pv (pv_geq rfl rfl) rfl ?_
  refine WL.nil ?_
  refine QN.thenW ?_
  refine WC.condD rfl (fun hc12 => ?_) (fun hc12 => ?_)
  · skip
    have hkn : k < n := by omega
    refine WC.skip ?_
    refine QN.thenW ?_
    refine WC.seq ?_
    refine WC.block ?_
    refine WC.seq ?_
    refine WC.region ?_
    refine WL.pv (pv_move rfl) rfl ?_
    refine WL.pv (pv_move rfl) rfl ?_
    refine WL.pv (pv_move rfl) rfl ?_
    refine WL.pv (pv_rem64u (b := 256) rfl rfl (by decide)) rfl ?_
    refine WL.pv (pv_conv someT_86 Try.underlying5 rfl (cv_64_8 _)) rfl ?_
    refine WL.pv (pv_indexAddrS1Z (j := n - 1 - k) slT_22 rfl rfl (by omega) (by omega)) rfl ?_
    refine WL.store (k := 0) hS sizeT_5 rfl rfl rfl rfl (by rw [bs8_len, fillE_len]; omega) ?_
    intro w hS
    try simp only [List.set] at hS
    rw [bs8_set, fillE_set _ hkn _ (by rw [show n - 1 - (n - 1 - k) = k from by omega])] at hS
    refine WL.nil ?_
    refine QN.thenW ?_
    refine WC.region ?_
    refine WL.pv (pv_move rfl) rfl ?_
    refine WL.pv (pv_quo64u (b := 256) rfl rfl (by decide)) rfl ?_
    refine WL.pv (pv_assign rfl) rfl ?_
    refine WL.nil ?_
    refine QN.blockN ?_
    refine QN.thenW ?_
    refine WC.region ?_
    refine WL.pv (pv_move rfl) rfl ?_
    refine WL.pv (pv_sub rfl rfl (by omega)) rfl ?_
    refine WL.pv (pv_assign rfl) rfl ?_
    refine WL.nil ?_
    refine QN.roundE ?_
    refine ⟨(k + 1), (Sub.cons rfl (Sub.cons rfl (Sub.cons rfl (Sub.cons (by simp only [lk]; simp; omega) Sub.nil)))), ⟨by omega, hS⟩, ?_⟩
    first | omega | (dsimp only; omega)
  · skip
    obtain rfl : k = n := by omega
    refine WC.exit ?_
    refine QN.thenX ?_
    refine QN.thenX ?_
    refine QN.blockX ?_
    refine QN.thenW ?_
    refine WC.seq ?_
    refine WC.region ?_
    refine WL.pv (pv_move rfl) rfl ?_
    refine WL.pv (pv_assign rfl) rfl ?_
    refine WL.nil ?_
    refine QN.thenW ?_
    refine WC.ret ?_
    refine QN.ret1 rfl rfl ?_
    exact ⟨_, rfl, hS.fr, by rw [beB, ← fillE_all]; exact (hS.bk (k := 0) rfl).toRw (by simp [bs8_len, fillE_len]) (by simp only [maxLen]; omega), fun b hb => by injection hb with hb; subst hb; exact hbo⟩

set_option maxRecDepth 100000 in
theorem word_c (s : ByteArray) (i : Nat) (w0 : World) (h : 8 * i + 8 ≤ s.size) (hs : s.size ≤ 4096) : Calls Try.prog 58 #[.string s, .int .i64 (i : Int)] w0 fun e w => e = .returned (w32 (hexW s i)) ∧ Fr No w0 w := by
  refine calls_of_WC (args := [.string s, .int .i64 (i : Int)]) Try.func58 rfl Try.ntmps58 rfl ?_
  show WC _ _ _ _ [(0, .string s), (1, .int .i64 (i : Int))] _
  have hS := ST.start w0 No
  refine WC.seq ?_
  refine WC.region ?_
  refine WL.pv (pv_assign rfl) rfl ?_
  refine WL.nil ?_
  refine QN.thenW ?_
  refine WC.seq ?_
  refine WC.region ?_
  refine WL.pv (pv_assign rfl) rfl ?_
  refine WL.nil ?_
  refine QN.thenW ?_
  refine WC.seq ?_
  refine WC.seq ?_
  refine WC.region ?_
  refine WL.pv (pv_move rfl) rfl ?_
  refine WL.pv (pv_mul rfl rfl (by omega)) rfl ?_
  refine WL.pv (pv_assign rfl) rfl ?_
  refine WL.nil ?_
  refine QN.thenW ?_
  refine WC.block ?_
  refine WC.loop (α := Nat) (fun k => [(0, .string s), (1, .int .i64 (i : Int)), (5, w32 (hexP s i k)), (6, .int .i64 ((8 * i + k : Nat) : Int))]) (fun k w => k ≤ 8 ∧ ST w0 No w []) (fun k => 8 - k) (0) (Sub.cons rfl (Sub.cons rfl (Sub.cons rfl (Sub.cons (by simp [lk]) Sub.nil)))) ⟨by omega, hS⟩ ?_
  rintro k w N hN hR
  obtain ⟨hk, hS⟩ := hR
  refine WC.seq ?_
  refine WC.seq ?_
  refine WC.region ?_
  refine WL.pv (pv_move rfl) rfl ?_
  refine WL.pv (pv_move rfl) rfl ?_
  refine WL.pv (pv_mul rfl rfl (by omega)) rfl ?_
  refine WL.pv (pv_add rfl rfl (by omega)) rfl ?_
  refine WL.pv (pv_lss rfl rfl) rfl ?_
  refine WL.nil ?_
  refine QN.thenW ?_
  refine WC.condD rfl (fun hc13 => ?_) (fun hc13 => ?_)
  · skip
    have hk8 : k < 8 := by omega
    have hsuc := hexP_succ s i k (by omega)
    refine WC.skip ?_
    refine QN.thenW ?_
    refine WC.seq ?_
    refine WC.block ?_
    refine WC.seq ?_
    refine WC.region ?_
    refine WL.pv (pv_move rfl) rfl ?_
    refine WL.pv (pv_move rfl) rfl ?_
    refine WL.pv (pv_indexStr (j := 8 * i + k) Try.underlying9 rfl rfl (by omega) (by omega)) rfl ?_
    refine WL.pv (pv_geq rfl rfl) rfl ?_
    refine WL.nil ?_
    refine QN.thenW ?_
    refine WC.condD rfl (fun hc19 => ?_) (fun hc19 => ?_)
    · skip
      have hsub : (some (w32 (16 * hexP s i k + (s[8 * i + k] - 97).toUInt32 + 10))) = some (w32 (hexP s i (k + 1))) := by rw [hsuc, hexD, if_pos (by omega)]
      refine WC.region ?_
      refine WL.pv (pv_move rfl) rfl ?_
      refine WL.pv (pv_mul32 (a := 16) rfl rfl) rfl ?_
      refine WL.pv (pv_move rfl) rfl ?_
      refine WL.pv (pv_move rfl) rfl ?_
      refine WL.pv (pv_indexStr (j := 8 * i + k) Try.underlying9 rfl rfl (by omega) (by omega)) rfl ?_
      refine WL.pv (pv_sub8 (b := 97) rfl rfl) rfl ?_
      refine WL.pv (pv_conv someT_5 Try.underlying91 rfl (cv_8_32 _)) rfl ?_
      refine WL.pv (pv_add32 rfl rfl) rfl ?_
      refine WL.pv (pv_add32 (b := 10) rfl rfl) rfl ?_
      refine WL.pv (pv_assign rfl) rfl ?_
      refine WL.nil ?_
      refine QN.blockN ?_
      refine QN.thenW ?_
      refine WC.region ?_
      refine WL.pv (pv_move rfl) rfl ?_
      refine WL.pv (pv_add rfl rfl (by omega)) rfl ?_
      refine WL.pv (pv_assign rfl) rfl ?_
      refine WL.nil ?_
      refine QN.roundE ?_
      refine ⟨(k + 1), (Sub.cons rfl (Sub.cons rfl (Sub.cons hsub (Sub.cons rfl Sub.nil)))), ⟨by omega, hS⟩, ?_⟩
      first | omega | (dsimp only; omega)
    · skip
      have hsub : (some (w32 (16 * hexP s i k + (s[8 * i + k] - 48).toUInt32))) = some (w32 (hexP s i (k + 1))) := by rw [hsuc, hexD, if_neg (by omega)]
      refine WC.region ?_
      refine WL.pv (pv_move rfl) rfl ?_
      refine WL.pv (pv_mul32 (a := 16) rfl rfl) rfl ?_
      refine WL.pv (pv_move rfl) rfl ?_
      refine WL.pv (pv_move rfl) rfl ?_
      refine WL.pv (pv_indexStr (j := 8 * i + k) Try.underlying9 rfl rfl (by omega) (by omega)) rfl ?_
      refine WL.pv (pv_sub8 (b := 48) rfl rfl) rfl ?_
      refine WL.pv (pv_conv someT_5 Try.underlying91 rfl (cv_8_32 _)) rfl ?_
      refine WL.pv (pv_add32 rfl rfl) rfl ?_
      refine WL.pv (pv_assign rfl) rfl ?_
      refine WL.nil ?_
      refine QN.blockN ?_
      refine QN.thenW ?_
      refine WC.region ?_
      refine WL.pv (pv_move rfl) rfl ?_
      refine WL.pv (pv_add rfl rfl (by omega)) rfl ?_
      refine WL.pv (pv_assign rfl) rfl ?_
      refine WL.nil ?_
      refine QN.roundE ?_
      refine ⟨(k + 1), (Sub.cons rfl (Sub.cons rfl (Sub.cons hsub (Sub.cons rfl Sub.nil)))), ⟨by omega, hS⟩, ?_⟩
      first | omega | (dsimp only; omega)
  · skip
    obtain rfl : k = 8 := by omega
    refine WC.exit ?_
    refine QN.thenX ?_
    refine QN.thenX ?_
    refine QN.blockX ?_
    refine QN.thenW ?_
    refine WC.seq ?_
    refine WC.region ?_
    refine WL.pv (pv_move rfl) rfl ?_
    refine WL.pv (pv_assign rfl) rfl ?_
    refine WL.nil ?_
    refine QN.thenW ?_
    refine WC.ret ?_
    refine QN.ret1 rfl rfl ?_
    exact ⟨rfl, hS.fr⟩


theorem cv_u64 (y : Nat) (h : y < 2 ^ 64) : IntKind.u64.wrap (y : Int) = (y : Int) := by rw [wrap_u_nat _ rfl, show IntKind.u64.bits = 64 from rfl, Nat.mod_eq_of_lt h]
def xor3 (x : UInt32) (a : Nat) : UInt32 := shr32 x a ||| x <<< UInt32.ofNat (32 - a)
def threeV (x : UInt32) (a b c : Nat) : UInt32 := 0 ^^^ xor3 x a ^^^ xor3 x b ^^^ xor3 x c
def threeP (x : UInt32) (a b c : Nat) : Nat → UInt32
  | 0 => 0
  | 1 => 0 ^^^ xor3 x a
  | 2 => 0 ^^^ xor3 x a ^^^ xor3 x b
  | _ => threeV x a b c
def twoV (x : UInt32) (a b c : Nat) : UInt32 := threeV x a b c ^^^ x <<< UInt32.ofNat (32 - c)
def int3 (a b c : Nat) : List Value := [.int .i64 (a : Int), .int .i64 (b : Int), .int .i64 (c : Int)]

set_option maxRecDepth 100000 in
theorem three_c (x : UInt32) (a b c : Nat) (w0 : World) (ha : 0 < a ∧ a < 32) (hb : 0 < b ∧ b < 32) (hc : 0 < c ∧ c < 32) : Calls Try.prog 84 #[w32 x, .agg (int3 a b c).toArray] w0 fun e w => e = .returned (w32 (threeV x a b c)) ∧ Fr No w0 w := by
  refine calls_of_WC (args := [w32 x, .agg (int3 a b c).toArray]) Try.func84 rfl Try.ntmps84 rfl ?_
  show WC _ _ _ _ [(0, w32 x), (1, .agg (int3 a b c).toArray)] _
  have hS := ST.start w0 No
  refine WC.seq ?_
  refine WC.region ?_
  refine WL.box (vs := int3 a b c) hS rfl rfl rfl ?_
  intro b3 w hb3 hS
  refine WL.pv (pv_assign rfl) rfl ?_
  refine WL.nil ?_
  refine QN.thenW ?_
  refine WC.seq ?_
  refine WC.region ?_
  refine WL.pv (pv_assign rfl) rfl ?_
  refine WL.nil ?_
  refine QN.thenW ?_
  refine WC.seq ?_
  refine WC.seq ?_
  refine WC.region ?_
  refine WL.pv (pv_assign rfl) rfl ?_
  refine WL.nil ?_
  refine QN.thenW ?_
  refine WC.block ?_
  refine WC.loop (α := Nat) (fun k => [(0, w32 x), (3, .pointer (some ⟨b3, 0, none⟩)), (5, w32 (threeP x a b c k)), (6, .int .i64 (k : Int))]) (fun k w => k ≤ 3 ∧ ST w0 No w [.blk b3 137 (int3 a b c)]) (fun k => 3 - k) (0) (Sub.cons rfl (Sub.cons rfl (Sub.cons rfl (Sub.cons rfl Sub.nil)))) ⟨by omega, hS⟩ ?_
  rintro k w N hN hR
  obtain ⟨hk, hS⟩ := hR
  refine WC.seq ?_
  refine WC.seq ?_
  refine WC.region ?_
  refine WL.pv (pv_move rfl) rfl ?_
  refine WL.pv (pv_lss rfl rfl) rfl ?_
  refine WL.nil ?_
  refine QN.thenW ?_
  refine WC.condD rfl (fun hc8 => ?_) (fun hc8 => ?_)
  · skip
    obtain ⟨y, hy, hy0, hy1, hsub⟩ : ∃ y, (int3 a b c)[k]? = some (.int .i64 ((y : Nat) : Int)) ∧ 0 < y ∧ y < 32 ∧ some (w32 (threeP x a b c k ^^^ (shr32 x y ||| x <<< UInt32.ofNat (32 - y)))) = some (w32 (threeP x a b c (k + 1))) := by
      have hk3 : k < 3 := by omega
      rcases k with _ | _ | _ | k
      · exact ⟨a, rfl, ha.1, ha.2, rfl⟩
      · exact ⟨b, rfl, hb.1, hb.2, rfl⟩
      · exact ⟨c, rfl, hc.1, hc.2, rfl⟩
      · omega
    refine WC.skip ?_
    refine QN.thenW ?_
    refine WC.seq ?_
    refine WC.block ?_
    refine WC.still mixedO (by kernel_rfl) ?_
    have hS := hS.no (Fr.drew _)
    refine WS.pv (pv_move rfl) rfl ?_
    refine WS.pv (pv_move rfl) rfl ?_
    refine WS.pv (pv_move rfl) rfl ?_
    refine WS.pv (pv_indexAddrA1Z arrT_137 rfl rfl rfl (by omega)) rfl ?_
    refine WS.rv (rv_load_blk (k := 0) hS oneT_3 rfl rfl hy) rfl ?_
    refine WS.pv (pv_conv someT_3 Try.underlying164 rfl (cv_u64 y (by omega))) rfl ?_
    refine WS.pv (pv_shr32g (c := y) rfl rfl) rfl ?_
    refine WS.pv (pv_move rfl) rfl ?_
    refine WS.pv (pv_move rfl) rfl ?_
    refine WS.pv (pv_indexAddrA1Z arrT_137 rfl rfl rfl (by omega)) rfl ?_
    refine WS.rv (rv_load_blk (k := 0) hS oneT_3 rfl rfl hy) rfl ?_
    refine WS.pv (pv_sub rfl rfl (by omega)) rfl ?_
    refine WS.pv (pv_conv (n := (((32 - y : Nat)) : Int)) someT_3 Try.underlying164 (by rw [show ((32 - y : Nat) : Int) = 32 - (y : Int) from by omega]; rfl) (cv_u64 (32 - y) (by omega))) rfl ?_
    refine WS.pv (pv_shl32 (c := 32 - y) rfl rfl (by omega)) rfl ?_
    refine WS.pv (pv_or32 rfl rfl) rfl ?_
    refine WS.pv (pv_xor32 rfl rfl) rfl ?_
    refine WS.pv (pv_assign rfl) rfl ?_
    refine WS.done ?_
    refine QN.blockN ?_
    refine QN.thenW ?_
    refine WC.region ?_
    refine WL.pv (pv_move rfl) rfl ?_
    refine WL.pv (pv_add rfl rfl (by omega)) rfl ?_
    refine WL.pv (pv_assign rfl) rfl ?_
    refine WL.nil ?_
    refine QN.roundE ?_
    refine ⟨(k + 1), (Sub.cons rfl (Sub.cons rfl (Sub.cons hsub (Sub.cons rfl Sub.nil)))), ⟨by omega, hS⟩, ?_⟩
    first | omega | (dsimp only; omega)
  · skip
    obtain rfl : k = 3 := by omega
    refine WC.exit ?_
    refine QN.thenX ?_
    refine QN.thenX ?_
    refine QN.blockX ?_
    refine QN.thenW ?_
    refine WC.seq ?_
    refine WC.region ?_
    refine WL.pv (pv_move rfl) rfl ?_
    refine WL.pv (pv_assign rfl) rfl ?_
    refine WL.nil ?_
    refine QN.thenW ?_
    refine WC.ret ?_
    refine QN.ret1 rfl rfl ?_
    exact ⟨rfl, hS.fr⟩

end Go.Proofs.Ytjcebkhhgdgohaa
