/- The digest of any text by the program is the digest by the document. -/
import Derived.Test.YtjcebkhhgdgohaaP2
namespace Go.Proofs.Ytjcebkhhgdgohaa
open Go Go.RowKit Go.Eng
theorem tks_short (K : Nat → UInt32) (h : Nat → UInt32) (l : List UInt8) : ∀ p : List UInt8, p.length + l.length < 64 → tks K (h, p) l = (h, p ++ l) := by
  induction l with
  | nil => intro p _; simp [tks]
  | cons c l ih =>
    intro p hp
    simp at hp
    have e : tks K (h, p) (c :: l) = tks K (tk K (h, p) c) l := by simp [tks]
    rw [e, tk, if_neg (by simp; omega), ih _ (by simp; omega)]
    simp
theorem tks_block (K : Nat → UInt32) (h : Nat → UInt32) (bl : List UInt8) (hl : bl.length = 64) : tks K (h, []) bl = (fullH K h bl, []) := by
  have e : bl = bl.take 63 ++ [bl[63]] := by rw [← List.take_succ_eq_append_getElem (by omega), List.take_of_length_le (by omega)]
  have e2 : tks K (h, []) bl = tks K (h, []) (bl.take 63 ++ [bl[63]]) := by rw [← e]
  rw [e2, tks_snoc, tks_short _ _ _ _ (by simp; omega), List.nil_append, tk]
  dsimp only
  rw [← e, if_pos hl]
theorem take_block {T : List UInt8} {j : Nat} : T.take (64 * (j + 1)) = T.take (64 * j) ++ (T.drop (64 * j)).take 64 := by
  rw [show 64 * (j + 1) = 64 * j + 64 from by omega, List.take_add]
theorem tks_blocks (T : List UInt8) (nb : Nat) (hT : T.length = 64 * nb) : ∀ j, j ≤ nb → ∃ H, tks KW (firstW, []) (T.take (64 * j)) = (H, []) ∧ ∀ n, n < 8 → H n = (hashP T j).getD n 0 := by
  intro j
  induction j with
  | zero =>
    intro _
    refine ⟨firstW, by simp [tks], fun n hn => ?_⟩
    rw [firstW_eq n hn, hashP, beginL]
    simp [List.getD, hn]
  | succ j ih =>
    intro hj
    obtain ⟨H, h1, h2⟩ := ih (by omega)
    refine ⟨fullH KW H ((T.drop (64 * j)).take 64), ?_, ?_⟩
    · rw [take_block, tks_app, h1, tks_block _ _ _ (by simp; omega)]
    · rw [hashP]
      exact full_ok _ (by simp; omega) H _ h2 (hashP_len T j)
theorem divs_toNat (x : UInt64) (k : Nat) : (divs x k).toNat = x.toNat / 256 ^ k := by
  induction k with
  | zero => simp [divs]
  | succ k ih => rw [divs, UInt64.toNat_div, ih, show (256 : UInt64).toNat = 256 from rfl, Nat.div_div_eq_div_mul, Nat.pow_succ]
theorem low8 (x : UInt64) : (x % 256).toUInt8.toNat = x.toNat % 256 := by
  rw [UInt64.toNat_toUInt8, UInt64.toNat_mod, show (256 : UInt64).toNat = 256 from rfl, show 2 ^ 8 = 256 from rfl, Nat.mod_mod]
theorem or_low (a b : Nat) (h : a % 256 = 0) : (a ||| b) % 256 = b % 256 := by
  rw [show 256 = 2 ^ 8 from rfl, Nat.or_mod_two_pow, show a % 2 ^ 8 = 0 from h, Nat.zero_or]
theorem rotl_low (x : UInt32) (k : Nat) (h1 : 8 ≤ k) (h2 : k < 32) : (rotl x k).toUInt8.toNat = x.toNat / 2 ^ (32 - k) % 256 := by
  rw [UInt32.toNat_toUInt8, rotl, Nat.mod_eq_of_lt h2, shr32, if_pos (by omega), UInt32.toNat_or, UInt32.toNat_shiftLeft, UInt32.toNat_shiftRight]
  have e1 : (UInt32.ofNat k).toNat % 32 = k := by simp; omega
  have e2 : (UInt32.ofNat (32 - k)).toNat % 32 = 32 - k := by simp; omega
  rw [e1, e2, show 2 ^ 8 = 256 from rfl, or_low, Nat.shiftRight_eq_div_pow]
  rw [Nat.shiftLeft_eq, show 2 ^ k = 2 ^ (k - 8) * 256 from by rw [show 256 = 2 ^ 8 from rfl, ← Nat.pow_add]; congr 1; omega, ← Nat.mul_assoc]
  omega
theorem rotl_low0 (x : UInt32) : (rotl x 32).toUInt8.toNat = x.toNat % 256 := by
  rw [UInt32.toNat_toUInt8, rotl, shr32, if_neg (by omega), UInt32.toNat_or, UInt32.toNat_shiftLeft]
  have e1 : (UInt32.ofNat (32 % 32)).toNat % 32 = 0 := by decide
  have hx := x.toNat_lt
  rw [e1, Nat.shiftLeft_zero, show (0 : UInt32).toNat = 0 from rfl, Nat.or_zero, show 2 ^ 8 = 256 from rfl]
  omega
theorem rotl64_low (x : UInt64) (k : Nat) (h1 : 8 ≤ k) (h2 : k < 64) : (rotl64 x k).toUInt8.toNat = x.toNat / 2 ^ (64 - k) % 256 := by
  rw [UInt64.toNat_toUInt8, rotl64, Nat.mod_eq_of_lt h2, shr64, if_pos (by omega), UInt64.toNat_or, UInt64.toNat_shiftLeft, UInt64.toNat_shiftRight]
  have e1 : (UInt64.ofNat k).toNat % 64 = k := by simp; omega
  have e2 : (UInt64.ofNat (64 - k)).toNat % 64 = 64 - k := by simp; omega
  rw [e1, e2, show 2 ^ 8 = 256 from rfl, or_low, Nat.shiftRight_eq_div_pow]
  rw [Nat.shiftLeft_eq, show 2 ^ k = 2 ^ (k - 8) * 256 from by rw [show 256 = 2 ^ 8 from rfl, ← Nat.pow_add]; congr 1; omega, ← Nat.mul_assoc]
  omega
theorem rotl64_low0 (x : UInt64) : (rotl64 x 64).toUInt8.toNat = x.toNat % 256 := by
  rw [UInt64.toNat_toUInt8, rotl64, shr64, if_neg (by omega), UInt64.toNat_or, UInt64.toNat_shiftLeft]
  have e1 : (UInt64.ofNat (64 % 64)).toNat % 64 = 0 := by decide
  have hx := x.toNat_lt
  rw [e1, Nat.shiftLeft_zero, show (0 : UInt64).toNat = 0 from rfl, Nat.or_zero, show 2 ^ 8 = 256 from rfl]
  omega
theorem pow256 (k : Nat) : 256 ^ k = 2 ^ (8 * k) := by rw [show 256 = 2 ^ 8 from rfl, ← Nat.pow_mul]
theorem byte4 (x : UInt32) (j : Nat) (hj : j < 4) : (rotl x (8 * (j + 1))).toUInt8 = (divs x.toUInt64 (4 - 1 - j) % 256).toUInt8 := by
  apply UInt8.toNat_inj.1
  rw [low8, divs_toNat, UInt32.toNat_toUInt64, pow256]
  by_cases h : j = 3
  · subst h; rw [rotl_low0]; simp
  · rw [rotl_low _ _ (by omega) (by omega)]; congr 3; omega
theorem byte8 (x : UInt64) (j : Nat) (hj : j < 8) : (rotl64 x (8 * (j + 1))).toUInt8 = (divs x (8 - 1 - j) % 256).toUInt8 := by
  apply UInt8.toNat_inj.1
  rw [low8, divs_toNat, pow256]
  by_cases h : j = 7
  · subst h; rw [rotl64_low0]; simp
  · rw [rotl64_low _ _ (by omega) (by omega)]; congr 3; omega
theorem tail_eq (n : UInt64) : tailB n = beB n 8 := by
  apply List.map_congr_left
  intro j hj
  exact byte8 n j (by simpa using hj)
theorem out_eq (h : Nat → UInt32) (s : List UInt32) (hs : ∀ n, n < 8 → h n = s.getD n 0) : outB h = outS s := by
  apply List.map_congr_left
  intro q hq
  have hq' : q < 32 := by simpa using hq
  rw [hs _ (by omega), keyF, byte4 _ _ (Nat.mod_lt _ (by decide))]
  have : ∀ (x : UInt64) (j : Nat), j < 4 → (beB x 4).getD j 0 = (divs x (4 - 1 - j) % 256).toUInt8 := fun x j hj => by simp [beB, List.getD, hj]
  rw [this _ _ (Nat.mod_lt _ (by decide))]
/-- The program's digest is the document's. -/
theorem sha_eq (m : List UInt8) : shaV m = refV m := by
  have hz : zeroN KW (tks KW (firstW, []) m) = padN m.length := by
    rw [zeroN, tks_len _ _ (tks_lt _ _ (by simp) _), tks_len _ _ (by simp), padN]
    simp; omega
  have hT := filL_len m
  obtain ⟨H, h1, h2⟩ := tks_blocks (filL m) ((filL m).length / 64) hT _ (Nat.le_refl _)
  rw [← hT, List.take_length] at h1
  rw [refV, ← out_eq H _ h2, shaV, finK, hz, tail_eq, ← tks_app, ← tks_app, ← tks_app, UInt64.mul_comm]
  have e : m ++ [128] ++ List.replicate (padN m.length) 0 ++ beB (8 * UInt64.ofNat m.length) 8 = filL m := rfl
  rw [← List.append_assoc, ← List.append_assoc, e, h1]
end Go.Proofs.Ytjcebkhhgdgohaa
