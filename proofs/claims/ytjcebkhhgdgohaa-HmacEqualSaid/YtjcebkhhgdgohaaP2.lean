/- The block function of the digest: the program's ring of words gives the document's words. -/
import Derived.Test.YtjcebkhhgdgohaaP1
namespace Go.Proofs.Ytjcebkhhgdgohaa
open Go Go.RowKit Go.Eng
-- the schedule
theorem sprL_at (bl : List UInt8) (q : Nat) : ∀ k, q < k → (sprL bl k).getD q 0 = spreadN bl (sprL bl q) q := by
  intro k
  induction k with
  | zero => intro h; omega
  | succ k ih =>
    intro h
    rw [sprL]
    by_cases hq : q < k
    · rw [List.getD, List.getElem?_append_left (by rw [sprL_len]; exact hq)]; exact ih hq
    · obtain rfl : q = k := by omega
      simp [List.getD, sprL_len]
/-- A block's words, by number. -/
def Wq (bl : List UInt8) (q : Nat) : UInt32 := spreadN bl (sprL bl q) q
theorem Wq_low (bl : List UInt8) {q : Nat} (h : q < 16) : Wq bl q = be32 bl q := by rw [Wq, spreadN, if_pos h]
theorem Wq_high (bl : List UInt8) {q : Nat} (h : 16 ≤ q) : Wq bl q = Wq bl (q - 16) + twoV (Wq bl (q - 15)) 7 18 3 + Wq bl (q - 7) + twoV (Wq bl (q - 2)) 17 19 10 := by
  rw [Wq, spreadN, if_neg (by omega), sprL_at bl (q - 16) q (by omega), sprL_at bl (q - 15) q (by omega), sprL_at bl (q - 7) q (by omega), sprL_at bl (q - 2) q (by omega)]
  rfl
-- the first sixteen
theorem shl8_or (a : UInt32) (c : UInt8) : (a <<< UInt32.ofNat 8 ||| c.toUInt32) = 256 * a + c.toUInt32 := by
  apply UInt32.toNat_inj.1
  rw [UInt32.toNat_or, UInt32.toNat_shiftLeft, UInt32.toNat_add, UInt32.toNat_mul, UInt8.toNat_toUInt32]
  have h1 : (UInt32.ofNat 8).toNat % 32 = 8 := by decide
  have h2 : (256 : UInt32).toNat = 256 := rfl
  have hc := c.toNat_lt
  have ha := a.toNat_lt
  rw [h1, h2, Nat.shiftLeft_eq, Nat.mul_comm]
  have e : (2 ^ 8 * a.toNat) % 2 ^ 32 = 2 ^ 8 * (a.toNat % 2 ^ 24) := by omega
  rw [e, ← Nat.two_pow_add_eq_or_of_lt (by omega)]
  omega
theorem numBE_32 (l : List UInt8) : (numBE l).toUInt32 = l.foldl (fun x c => 256 * x + c.toUInt32) 0 := by
  suffices h : ∀ (x : UInt64) (y : UInt32), x.toUInt32 = y → (l.foldl (fun x c => 256 * x + c.toUInt64) x).toUInt32 = l.foldl (fun x c => 256 * x + c.toUInt32) y from h 0 0 rfl
  induction l with
  | nil => intro x y h; exact h
  | cons c l ih =>
    intro x y h
    refine ih _ _ ?_
    subst h
    apply UInt32.toNat_inj.1
    simp only [UInt64.toNat_toUInt32, UInt64.toNat_add, UInt64.toNat_mul, UInt32.toNat_add, UInt32.toNat_mul, UInt8.toNat_toUInt64, UInt8.toNat_toUInt32]
    have h2 : (256 : UInt64).toNat = 256 := rfl
    have h3 : (256 : UInt32).toNat = 256 := rfl
    rw [h2, h3]
    omega
/-- A word while its bytes go in. -/
theorem fillR_at (bl : List UInt8) (hl : bl.length = 64) : ∀ k, k ≤ 64 → ∀ j, j < 16 → fillR bl k j = ((bl.drop (4 * j)).take (k - 4 * j)).foldl (fun x c => 256 * x + c.toUInt32) 0 ∨ 4 * j + 4 < k := by
  intro k
  induction k with
  | zero => intro _ j _; left; simp [fillR]
  | succ k ih =>
    intro hk j hj
    by_cases h : 4 * j + 4 < k + 1
    · exact .inr h
    left
    rcases ih (by omega) j hj with h1 | h1
    · rw [fillR, upd]
      by_cases hkj : j = k / 4
      · rw [if_pos hkj, ← hkj, h1, show k + 1 - 4 * j = (k - 4 * j) + 1 from by omega, List.take_succ_eq_append_getElem (by simp; omega), List.foldl_append, List.getElem?_eq_getElem (by omega), shl8_or]
        simp only [List.foldl_cons, List.foldl_nil, List.getElem_drop]
        congr 2
        simp only [Option.getD_some]
        congr 1
        omega
      · rw [if_neg hkj, h1]
        by_cases h4 : k < 4 * j
        · rw [show k - 4 * j = 0 from by omega, show k + 1 - 4 * j = 0 from by omega]
        · omega
    · omega
theorem fillR_mono (bl : List UInt8) (j : Nat) : ∀ d, fillR bl (4 * j + 4 + d) j = fillR bl (4 * j + 4) j := by
  intro d
  induction d with
  | zero => rfl
  | succ d ih => rw [← Nat.add_assoc, fillR, upd, if_neg (by omega), ih]
theorem fillR_be (bl : List UInt8) (hl : bl.length = 64) {j : Nat} (hj : j < 16) : fillR bl 64 j = be32 bl j := by
  have h := fillR_mono bl j (60 - 4 * j)
  rw [show 4 * j + 4 + (60 - 4 * j) = 64 from by omega] at h
  rw [h, be32, numBE_32]
  rcases fillR_at bl hl (4 * j + 4) (by omega) j hj with h1 | h1
  · rw [h1, show 4 * j + 4 - 4 * j = 4 from by omega]
  · omega
-- the ring
def RingOk (bl : List UInt8) (r : Nat → UInt32) (i : Nat) : Prop := ∀ q, i ≤ q + 16 → q < max i 16 → r (q % 16) = Wq bl q
theorem ring_start (bl : List UInt8) (hl : bl.length = 64) : RingOk bl (fillR bl 64) 0 := by
  intro q _ h2
  have hq : q < 16 := by omega
  rw [Nat.mod_eq_of_lt hq, fillR_be bl hl hq, Wq_low bl hq]
theorem ring_word (bl : List UInt8) (r : Nat → UInt32) (i : Nat) (h : RingOk bl r i) : ringN r i (i % 16) = Wq bl i := by
  unfold ringN
  by_cases hi : 16 ≤ i
  · rw [if_pos hi, upd, if_pos rfl, sig0_eq, sig1_eq, Wq_high bl hi]
    have h0 := h (i - 16) (by omega) (by omega)
    rw [show (i - 16) % 16 = i % 16 from by omega] at h0
    rw [h0, h (i - 7) (by omega) (by omega), h (i - 15) (by omega) (by omega), h (i - 2) (by omega) (by omega)]
    simp only [UInt32.add_assoc]
    congr 1
    rw [← UInt32.add_assoc, UInt32.add_comm (Wq bl (i - 7)), UInt32.add_assoc]
  · rw [if_neg hi]; exact h i (by omega) (by omega)
theorem ring_next (bl : List UInt8) (r : Nat → UInt32) (i : Nat) (h : RingOk bl r i) : RingOk bl (ringN r i) (i + 1) := by
  intro q h1 h2
  by_cases hq : q = i
  · subst hq; exact ring_word bl r q h
  · by_cases hi : 16 ≤ i
    · have h3 : ringN r i (q % 16) = r (q % 16) := by
        unfold ringN
        rw [if_pos hi, upd, if_neg (by omega)]
      rw [h3]; exact h q (by omega) (by omega)
    · have h3 : ringN r i = r := by unfold ringN; rw [if_neg hi]
      rw [h3]; exact h q (by omega) (by omega)
-- the rounds
def VOk (H : Nat → UInt32) (V : List UInt32) (i : Nat) : Prop := ∀ n, n < 8 → hAt H i n = V.getD n 0
theorem eight {V : List UInt32} (h : V.length = 8) : ∃ v0 v1 v2 v3 v4 v5 v6 v7, V = [v0, v1, v2, v3, v4, v5, v6, v7] := by
  refine ⟨V[0], V[1], V[2], V[3], V[4], V[5], V[6], V[7], ?_⟩
  apply List.ext_getElem
  · simpa using h
  · intro i h1 h2
    rcases i with _ | _ | _ | _ | _ | _ | _ | _ | i
    all_goals first | rfl | (simp at h2; omega)
theorem step_ok (bl : List UInt8) (H r : Nat → UInt32) (V : List UInt32) (i : Nat) (hi : i < 64) (hV : VOk H V i) (hlen : V.length = 8) (hr : RingOk bl r i) : VOk (stepH H r KW i) (stepR V (hexW roundsS i) (Wq bl i)) (i + 1) := by
  have hone : oneOf H r KW i = xR V (hexW roundsS i) (Wq bl i) := by
    rw [oneOf, xR, big1_eq, choice_eq, hV 7 (by omega), hV 4 (by omega), hV 5 (by omega), hV 6 (by omega), KW_eq i hi, ring_word bl r i hr]
  have htwo : twoOf H i = threeV (V.getD 0 0) 2 13 22 := by rw [twoOf, big0_eq, hV 0 (by omega)]
  have hmost : mostOf H i = mostR (V.getD 0 0) (V.getD 1 0) (V.getD 2 0) := by rw [mostOf, most_eq, hV 0 (by omega), hV 1 (by omega), hV 2 (by omega)]
  have h3 := hV 3 (by omega)
  intro n hn
  rw [hAt, stepH, hone, htwo, hmost]
  obtain ⟨v0, v1, v2, v3, v4, v5, v6, v7, rfl⟩ : ∃ v0 v1 v2 v3 v4 v5 v6 v7, V = [v0, v1, v2, v3, v4, v5, v6, v7] := eight hlen
  have old : ∀ m, m < 8 → hAt H i m = [v0, v1, v2, v3, v4, v5, v6, v7].getD m 0 := hV
  simp only [hAt] at old h3
  generalize hx : xR [v0, v1, v2, v3, v4, v5, v6, v7] (hexW roundsS i) (Wq bl i) = X
  rw [upd]
  by_cases e0 : (n + 64 - (i + 1)) % 8 = (71 - i) % 8
  · obtain rfl : n = 0 := by omega
    rw [if_pos e0]
    simp [stepR, hx]
  · rw [if_neg e0, upd]
    by_cases e4 : (n + 64 - (i + 1)) % 8 = (67 - i) % 8
    · obtain rfl : n = 4 := by omega
      rw [if_pos e4, show (67 - i) % 8 = (3 + 64 - i) % 8 from rfl, h3]
      simp [stepR, hx]
    · rw [if_neg e4]
      have hn0 : n ≠ 0 := fun h => e0 (by omega)
      have hn4 : n ≠ 4 := fun h => e4 (by omega)
      rw [show (n + 64 - (i + 1)) % 8 = ((n - 1) + 64 - i) % 8 from by omega, old (n - 1) (by omega)]
      rcases n with _ | _ | _ | _ | _ | _ | _ | _ | n
      · omega
      · rfl
      · rfl
      · rfl
      · omega
      · rfl
      · rfl
      · rfl
      · omega
theorem rounds_ok (bl : List UInt8) (hl : bl.length = 64) (h : Nat → UInt32) (f : List UInt32) (hf : ∀ n, n < 8 → h n = f.getD n 0) (hfl : f.length = 8) : ∀ i, i ≤ 64 →
    VOk (rnd h (fillR bl 64) KW i).1 (rndR f (sprL bl 64) i) i ∧ RingOk bl (rnd h (fillR bl 64) KW i).2 i := by
  intro i
  induction i with
  | zero =>
    intro _
    refine ⟨fun n hn => ?_, ring_start bl hl⟩
    rw [hAt, show (n + 64 - 0) % 8 = n from by omega]
    exact hf n hn
  | succ i ih =>
    intro hi
    obtain ⟨h1, h2⟩ := ih (by omega)
    refine ⟨?_, ring_next bl _ i h2⟩
    have := step_ok bl _ _ _ i (by omega) h1 (rndR_len f _ hfl i) h2
    rw [rnd, rndR, sprL_at bl i 64 (by omega)]
    exact this
theorem addH_at (h H : Nat → UInt32) : ∀ k j, addH h H k j = if j < k then h j + H j else h j := by
  intro k
  induction k with
  | zero => intro j; simp [addH]
  | succ k ih =>
    intro j
    rw [addH, upd]
    by_cases hj : j = k
    · subst hj; rw [if_pos rfl, ih, if_neg (by omega), if_pos (by omega)]
    · rw [if_neg hj, ih]
      by_cases h2 : j < k
      · rw [if_pos h2, if_pos (by omega)]
      · rw [if_neg h2, if_neg (by omega)]
/-- A block: the program's words are the document's. -/
theorem full_ok (bl : List UInt8) (hl : bl.length = 64) (h : Nat → UInt32) (f : List UInt32) (hf : ∀ n, n < 8 → h n = f.getD n 0) (hfl : f.length = 8) : ∀ n, n < 8 → fullH KW h bl n = (behL f bl).getD n 0 := by
  intro n hn
  have h1 := (rounds_ok bl hl h f hf hfl 64 (by omega)).1 n hn
  rw [hAt, show (n + 64 - 64) % 8 = n from by omega] at h1
  have e : ∀ g : Nat → UInt32, ((List.range 8).map g).getD n 0 = g n := fun g => by simp [List.getD, hn]
  rw [fullH, addH_at, if_pos hn, h1, hf n hn, behL, outR, e]
end Go.Proofs.Ytjcebkhhgdgohaa
