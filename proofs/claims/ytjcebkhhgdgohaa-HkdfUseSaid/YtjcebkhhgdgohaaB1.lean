/- What a few functions of the program compute, part B1. -/
import Derived.Test.YtjcebkhhgdgohaaR3
import Derived.Test.YtjcebkhhgdgohaaEngT
namespace Go.Proofs.Ytjcebkhhgdgohaa
open Go Go.RowKit Go.Eng


/-- How many bytes a number needs; none for nought. -/
def wid0 (x : Nat) : Nat := if h : x = 0 then 0 else wid0 (x / 256) + 1
termination_by x
decreasing_by omega
theorem wid0_zero : wid0 0 = 0 := by rw [wid0]; simp
theorem wid0_pos {x : Nat} (h : 0 < x) : wid0 x = wid0 (x / 256) + 1 := by rw [wid0, dif_neg (by omega)]
/-- How many bytes a number needs. -/
def widN (x : Nat) : Nat := 1 + wid0 (x / 256)
theorem wid0_le : ∀ k x, x < 256 ^ k → wid0 x ≤ k := by
  intro k
  induction k with
  | zero => intro x h; simp at h; subst h; rw [wid0_zero]; omega
  | succ k ih =>
    intro x h
    by_cases h0 : x = 0
    · subst h0; rw [wid0_zero]; omega
    · rw [wid0_pos (by omega)]
      have := ih (x / 256) (by rw [Nat.pow_succ] at h; omega)
      omega
theorem widN_le {k x : Nat} (hk : 1 ≤ k) (h : x < 256 ^ k) : widN x ≤ k := by
  have := wid0_le (k - 1) (x / 256) (by
    rw [show k = (k - 1) + 1 from by omega, Nat.pow_succ] at h
    omega)
  unfold widN; omega
theorem wid64 (x : UInt64) : widN x.toNat ≤ 8 := widN_le (by omega) (by have := x.toNat_lt; simpa using this)
theorem shr8 (x : UInt64) : (x >>> UInt64.ofNat 8).toNat = x.toNat / 256 := by
  rw [UInt64.toNat_shiftRight, show (UInt64.ofNat 8).toNat % 64 = 8 from by decide, Nat.shiftRight_eq_div_pow]
theorem divs_nat (x : UInt64) (k : Nat) : (divs x k).toNat = x.toNat / 256 ^ k := by
  induction k with
  | zero => simp [divs]
  | succ k ih => rw [divs, UInt64.toNat_div, ih, show (256 : UInt64).toNat = 256 from rfl, Nat.div_div_eq_div_mul, Nat.pow_succ]
theorem shr_byte (x : UInt64) (i : Nat) (hi : i < 8) : (x >>> UInt64.ofNat (8 * i)).toUInt8 = (divs x i % 256).toUInt8 := by
  apply UInt8.toNat_inj.1
  rw [UInt64.toNat_toUInt8, UInt64.toNat_toUInt8, UInt64.toNat_mod, divs_nat, UInt64.toNat_shiftRight, Nat.shiftRight_eq_div_pow, show (UInt64.ofNat (8 * i)).toNat % 64 = 8 * i from by simp; omega, show (256 : UInt64).toNat = 256 from rfl, show 256 ^ i = 2 ^ (8 * i) from by rw [Nat.pow_mul], show 2 ^ 8 = 256 from rfl]
  omega

theorem pv_shr64g8 {P : Program} {l : Env} {d : Nat} {ty : TypeId} {pos : String} {af : Array Edge} {T U : TypeId} {x y : Operand} {yk : IntKind} {a : UInt64} {k : Nat} (hx : ev l x = some (w64 a)) (hy : ev l y = some (.int yk (8 * (k : Int)))) (hk : k < 8) : PV P l ⟨some d, .binOp .shr T x y U, ty, pos, af, none⟩ (w64 (a >>> UInt64.ofNat (8 * k))) :=
  pv_shr64 (c := 8 * k) hx (by rw [hy, show (8 * (k : Int)) = ((8 * k : Nat) : Int) from by omega]) (by omega)

set_option maxRecDepth 100000 in
theorem width_c (x : UInt64) (w0 : World) : Calls Try.prog 85 #[w64 x] w0 fun e w => e = .returned (.int .i64 (widN x.toNat : Int)) ∧ Fr No w0 w := by
  refine calls_of_WC (args := [w64 x]) Try.func85 rfl Try.ntmps85 rfl ?_
  show WC _ _ _ _ [(0, w64 x)] _
  have hS := ST.start w0 No
  refine WC.seq ?_
  refine WC.region ?_
  refine WL.pv (pv_assign rfl) rfl ?_
  refine WL.nil ?_
  refine QN.thenW ?_
  refine WC.seq ?_
  refine WC.region ?_
  refine WL.pv (pv_assign rfl) rfl ?_
  refine WL.nil ?_
  refine QN.thenW ?_
  refine WC.seq ?_
  refine WC.seq ?_
  refine WC.region ?_
  refine WL.pv (pv_move rfl) rfl ?_
  refine WL.pv (pv_shr64 (c := 8) rfl rfl (by omega)) rfl ?_
  refine WL.pv (pv_assign rfl) rfl ?_
  refine WL.nil ?_
  refine QN.thenW ?_
  refine WC.block ?_
  refine WC.loop (α := Nat × UInt64) (fun s => [(0, w64 s.2), (3, .int .i64 (s.1 : Int))]) (fun s w => s.1 + wid0 s.2.toNat = widN x.toNat ∧ ST w0 No w []) (fun s => s.2.toNat) ((1, x >>> UInt64.ofNat 8)) (Sub.cons rfl (Sub.cons rfl Sub.nil)) ⟨by show 1 + wid0 _ = _; rw [shr8]; rfl, hS⟩ ?_
  rintro ⟨n, y⟩ w N hN hR
  change N = y.toNat at hN
  change n + wid0 y.toNat = widN x.toNat ∧ ST w0 No w [] at hR
  show WC _ _ _ _ [(0, w64 y), (3, .int .i64 (n : Int))] _
  obtain ⟨hn, hS⟩ := hR
  have h8 := wid64 x
  refine WC.seq ?_
  refine WC.seq ?_
  refine WC.region ?_
  refine WL.pv (pv_move rfl) rfl ?_
  refine WL.pv (pv_gtr rfl rfl) rfl ?_
  refine WL.nil ?_
  refine QN.thenW ?_
  refine WC.condD rfl (fun hc7 => ?_) (fun hc7 => ?_)
  · skip
    have hpos : 0 < y.toNat := by omega
    refine WC.skip ?_
    refine QN.thenW ?_
    refine WC.seq ?_
    refine WC.block ?_
    refine WC.region ?_
    refine WL.pv (pv_move rfl) rfl ?_
    refine WL.pv (pv_add rfl rfl (by omega)) rfl ?_
    refine WL.pv (pv_assign rfl) rfl ?_
    refine WL.nil ?_
    refine QN.blockN ?_
    refine QN.thenW ?_
    refine WC.region ?_
    refine WL.pv (pv_move rfl) rfl ?_
    refine WL.pv (pv_shr64 (c := 8) rfl rfl (by omega)) rfl ?_
    refine WL.pv (pv_assign rfl) rfl ?_
    refine WL.nil ?_
    refine QN.roundE ?_
    refine ⟨((n + 1, y >>> UInt64.ofNat 8)), (Sub.cons rfl (Sub.cons rfl Sub.nil)), ⟨by show n + 1 + wid0 _ = _; rw [shr8, ← hn, wid0_pos hpos]; omega, hS⟩, ?_⟩
    (show (y >>> UInt64.ofNat 8).toNat < N; rw [shr8]; omega)
  · skip
    have hy0 : y.toNat = 0 := by omega
    rw [hy0, wid0_zero] at hn
    refine WC.exit ?_
    refine QN.thenX ?_
    refine QN.thenX ?_
    refine QN.blockX ?_
    refine QN.thenW ?_
    refine WC.seq ?_
    refine WC.region ?_
    refine WL.pv (pv_move rfl) rfl ?_
    refine WL.pv (pv_assign rfl) rfl ?_
    refine WL.nil ?_
    refine QN.thenW ?_
    refine WC.ret ?_
    refine QN.ret1 rfl rfl ?_
    exact ⟨by rw [show (n : Int) = (widN x.toNat : Int) from by omega], hS.fr⟩

set_option maxRecDepth 100000 in
theorem spread_b (x : UInt64) (n : Nat) (w0 : World) (hn : n ≤ 8) : Calls Try.prog 87 #[w64 x, .int .i64 (n : Int)] w0 (OwnPost (bs8 (beB x n)) 5 w0) := by
  refine calls_of_WC (args := [w64 x, .int .i64 (n : Int)]) Try.func87 rfl Try.ntmps87 rfl ?_
  show WC _ _ _ _ [(0, w64 x), (1, .int .i64 (n : Int))] _
  have hS := ST.start w0 No
  refine WC.seq ?_
  refine WC.region ?_
  refine WL.pv (pv_assign rfl) rfl ?_
  refine WL.nil ?_
  refine QN.thenW ?_
  refine WC.seq ?_
  refine WC.region ?_
  refine WL.pv (pv_move rfl) rfl ?_
  refine WL.makeB hS slT_22 zeroT_5 (by simp) rfl rfl (by omega) (by simp [maxLen]; omega) rfl ?_
  intro bo w hbo hS
  rw [show (List.replicate n [b8 0]).flatten = bs8 (fillE (fun j => (divs x (n - 1 - j) % 256).toUInt8) n 0) from by rw [fillE_zero]; simp [bs8]] at hS
  refine WL.pv (pv_assign rfl) rfl ?_
  refine WL.nil ?_
  refine QN.thenW ?_
  refine WC.seq ?_
  refine WC.seq ?_
  refine WC.region ?_
  refine WL.pv (pv_move rfl) rfl ?_
  refine WL.pv (pv_move rfl) rfl ?_
  refine WL.nil ?_
  refine QN.thenW ?_
  refine WC.block ?_
  refine WC.loop (α := Nat) (fun k => [(0, w64 x), (1, .int .i64 (n : Int)), (5, .slice (some ⟨bo, 0, none⟩) n n), (9, .int .i64 (n : Int)), (10, .int .i64 (k : Int))]) (fun k w => k ≤ n ∧ ST w0 No w [.blk bo 5 (bs8 (fillE (fun j => (divs x (n - 1 - j) % 256).toUInt8) n k))]) (fun k => n - k) (0) (Sub.cons rfl (Sub.cons rfl (Sub.cons rfl (Sub.cons rfl (Sub.cons rfl Sub.nil))))) ⟨by omega, hS⟩ ?_
  rintro k w N hN hR
  obtain ⟨hk, hS⟩ := hR
  refine WC.seq ?_
  refine WC.region ?_
  refine WL.pv (pv_lss rfl rfl) rfl ?_
  refine WL.nil ?_
  refine QN.thenW ?_
  refine WC.seq ?_
  refine WC.condD rfl (fun hc11 => ?_) (fun hc11 => ?_)
  · skip
    have hkn : k < n := by omega
    refine WC.skip ?_
    refine QN.thenW ?_
    refine WC.seq ?_
    refine WC.block ?_
    refine WC.seq ?_
    refine WC.region ?_
    refine WL.pv (pv_move rfl) rfl ?_
    refine WL.pv (pv_assign rfl) rfl ?_
    refine WL.nil ?_
    refine QN.thenW ?_
    refine WC.region ?_
    refine WL.pv (pv_move rfl) rfl ?_
    refine WL.pv (pv_move rfl) rfl ?_
    refine WL.pv (pv_sub rfl rfl (by omega)) rfl ?_
    refine WL.pv (pv_move rfl) rfl ?_
    refine WL.pv (pv_sub rfl rfl (by omega)) rfl ?_
    refine WL.pv (pv_move rfl) rfl ?_
    refine WL.pv (pv_move rfl) rfl ?_
    refine WL.pv (pv_mul rfl rfl (by omega)) rfl ?_
    refine WL.pv (pv_shr64g8 rfl rfl (by omega)) rfl ?_
    refine WL.pv (pv_conv someT_86 Try.underlying5 rfl (cv_64_8 _)) rfl ?_
    refine WL.pv (pv_indexAddrS1Z (j := n - 1 - k) slT_22 rfl rfl (by omega) (by omega)) rfl ?_
    refine WL.store (k := 0) hS sizeT_5 rfl rfl rfl rfl (by rw [bs8_len, fillE_len]; omega) ?_
    intro w hS
    try simp only [List.set] at hS
    rw [bs8_set, fillE_set _ hkn _ (by rw [show n - 1 - (n - 1 - k) = k from by omega, shr_byte _ _ (by omega)])] at hS
    refine WL.nil ?_
    refine QN.blockN ?_
    refine QN.thenW ?_
    refine WC.region ?_
    refine WL.pv (pv_add rfl rfl (by omega)) rfl ?_
    refine WL.pv (pv_move rfl) rfl ?_
    refine WL.nil ?_
    refine QN.roundE ?_
    refine ⟨(k + 1), (Sub.cons rfl (Sub.cons rfl (Sub.cons rfl (Sub.cons rfl (Sub.cons rfl Sub.nil))))), ⟨by omega, hS⟩, ?_⟩
    first | omega | (dsimp only; omega)
  · skip
    obtain rfl : k = n := by omega
    refine WC.exit ?_
    refine QN.thenX ?_
    refine QN.thenX ?_
    refine QN.blockX ?_
    refine QN.thenW ?_
    refine WC.seq ?_
    refine WC.region ?_
    refine WL.pv (pv_move rfl) rfl ?_
    refine WL.pv (pv_assign rfl) rfl ?_
    refine WL.nil ?_
    refine QN.thenW ?_
    refine WC.ret ?_
    refine QN.ret1 rfl rfl ?_
    exact ⟨_, rfl, hS.fr, by rw [beB, ← fillE_all]; exact (hS.bk (k := 0) rfl).toRw (by simp [bs8_len, fillE_len]) (by simp only [maxLen]; omega), fun b hb => by injection hb with hb; subst hb; exact hbo⟩

end Go.Proofs.Ytjcebkhhgdgohaa
