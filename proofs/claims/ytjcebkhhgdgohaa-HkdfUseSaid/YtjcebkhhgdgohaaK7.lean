/- What a few functions of the program compute, part K7. -/
import Derived.Test.YtjcebkhhgdgohaaK6
import Derived.Test.YtjcebkhhgdgohaaEngX
namespace Go.Proofs.Ytjcebkhhgdgohaa
open Go Go.RowKit Go.Eng


/-- A use's name. -/
def NamC (b : UInt8) : Prop := 32 ≤ b.toNat ∧ b.toNat ≤ 126
instance (b : UInt8) : Decidable (NamC b) := by unfold NamC; exact inferInstance
def Nam (s : ByteArray) : Prop := (∀ j (hj : j < s.size), NamC s[j]) ∧ 1 ≤ s.size ∧ s.size ≤ 40
instance (s : ByteArray) : Decidable (Nam s) := by unfold Nam; exact inferInstance
def NamPost (s : ByteArray) (w0 : World) (e : Ending) (w : World) : Prop := ∃ t, e = .returned (.bool t) ∧ (t = true ↔ Nam s) ∧ Fr No w0 w
theorem dec_in {s : ByteArray} {p : Nat} (h : p < s.size) (h2 : (Utf8.decode s p).1 ≤ 126) : Utf8.decode s p = (s[p].toNat, 1) := by
  by_cases ha : s[p].toNat < 128
  · exact decode_ascii s p h ha
  · have := (decode_high s p h (by omega)).1; omega
theorem dec_out {s : ByteArray} {p : Nat} (h : p < s.size) (h2 : (Utf8.decode s p).1 < 32 ∨ 126 < (Utf8.decode s p).1) : ¬ Nam s := by
  intro hN
  have hc := hN.1 p h
  unfold NamC at hc
  rw [decode_ascii s p h (by omega)] at h2
  simp only at h2
  omega

set_option maxRecDepth 100000 in
theorem named_c (s : ByteArray) (w0 : World) (hs : s.size ≤ 1000) : Calls Try.prog 69 #[.string s] w0 (NamPost s w0) := by
  refine calls_of_WC (args := [.string s]) Try.func69 rfl Try.ntmps69 rfl ?_
  show WC _ _ _ _ [(0, .string s)] _
  have hS := ST.start w0 No
  refine WC.seq ?_
  refine WC.region ?_
  refine WL.pv (pv_assign rfl) rfl ?_
  refine WL.nil ?_
  refine QN.thenW ?_
  refine WC.seq ?_
  refine WC.region ?_
  refine WL.pv (pv_assign rfl) rfl ?_
  refine WL.nil ?_
  refine QN.thenW ?_
  refine WC.seq ?_
  refine WC.seq ?_
  refine WC.region ?_
  refine WL.pv (pv_move rfl) rfl ?_
  refine WL.rangeStr hS Try.underlying9 rfl rfl ?_
  intro bi w hbi hS
  refine WL.nil ?_
  refine QN.thenW ?_
  refine WC.block ?_
  refine WC.loop (α := Nat) (fun p => [(0, .string s), (3, .int .i64 (p : Int)), (7, .pointer (some ⟨bi, 0, none⟩))]) (fun p w => p ≤ s.size ∧ (∀ j (hj : j < s.size), j < p → NamC s[j]) ∧ ST w0 No w [.obj bi (.stringIter s p)]) (fun p => s.size - p) (0) (Sub.cons rfl (Sub.cons rfl (Sub.cons rfl Sub.nil))) ⟨by omega, fun j hj h => absurd h (by omega), hS⟩ ?_
  rintro p w N hN hR
  obtain ⟨hp, hN0, hS⟩ := hR
  refine WC.seq ?_
  by_cases hps : p < s.size
  · skip
    refine WC.region ?_
    refine WL.nextStr (k := 0) hS rfl rfl (by omega) rfl ?_
    intro w hS
    try simp only [List.set] at hS
    refine WL.pv (pv_extL rfl rfl) rfl ?_
    refine WL.nil ?_
    refine QN.thenW ?_
    refine WC.seq ?_
    refine WC.condT rfl rfl ?_
    refine WC.skip ?_
    refine QN.thenW ?_
    refine WC.block ?_
    refine WC.seq ?_
    refine WC.region ?_
    refine WL.pv (pv_extL rfl rfl) rfl ?_
    refine WL.pv (pv_assign rfl) rfl ?_
    refine WL.nil ?_
    refine QN.thenW ?_
    refine WC.seq ?_
    refine WC.seq ?_
    by_cases hlo : (Utf8.decode s p).1 < 32
    · skip
      refine WC.region ?_
      refine WL.pv (pv_move rfl) rfl ?_
      refine WL.pv (pv_lss rfl rfl) rfl ?_
      refine WL.pv (pv_move rfl) rfl ?_
      refine WL.guardF rfl rfl rfl (lkT rfl (by omega)) rfl rfl ?_
      refine WL.guardF rfl rfl rfl (lkT rfl (by omega)) rfl rfl ?_
      refine WL.pv (pv_pick1 (lkT rfl (by omega)) rfl) rfl ?_
      refine WL.nil ?_
      refine QN.thenW ?_
      refine WC.condT rfl rfl ?_
      refine WC.seq ?_
      refine WC.region ?_
      refine WL.pv (pv_assign rfl) rfl ?_
      refine WL.nil ?_
      refine QN.thenW ?_
      refine WC.ret ?_
      refine QN.thenR ?_
      refine QN.blockR ?_
      refine QN.thenR ?_
      refine QN.blockR ?_
      refine QN.thenR ?_
      refine QN.ret1 rfl rfl ?_
      exact ⟨false, rfl, ⟨fun h => by simp at h, fun h => absurd h (dec_out hps (.inl hlo))⟩, hS.fr⟩
    · skip
      refine WC.region ?_
      refine WL.pv (pv_move rfl) rfl ?_
      refine WL.pv (pv_lss rfl rfl) rfl ?_
      refine WL.pv (pv_move rfl) rfl ?_
      refine WL.guardT rfl rfl rfl (lkF rfl (by omega)) ?_
      refine WL.pv (pv_move rfl) rfl ?_
      refine WL.guardT rfl rfl rfl (lkF rfl (by omega)) ?_
      refine WL.pv (pv_gtr rfl rfl) rfl ?_
      refine WL.pv (pv_pick0 (lkF rfl (by omega)) rfl) rfl ?_
      refine WL.nil ?_
      refine QN.thenW ?_
      refine WC.condD rfl (fun hc16 => ?_) (fun hc16 => ?_)
      · skip
        have hout : ¬ Nam s := dec_out hps (.inr (by omega))
        refine WC.seq ?_
        refine WC.region ?_
        refine WL.pv (pv_assign rfl) rfl ?_
        refine WL.nil ?_
        refine QN.thenW ?_
        refine WC.ret ?_
        refine QN.thenR ?_
        refine QN.blockR ?_
        refine QN.thenR ?_
        refine QN.blockR ?_
        refine QN.thenR ?_
        refine QN.ret1 rfl rfl ?_
        exact ⟨false, rfl, ⟨fun h => by simp at h, fun h => absurd h hout⟩, hS.fr⟩
      · skip
        have hdec := dec_in hps (by omega)
        have hdc : (Utf8.decode s p).1 = s[p].toNat := by rw [hdec]
        have hN1 : ∀ j (hj : j < s.size), j < p + 1 → NamC s[j] := fun j hj h => by
          by_cases hjp : j = p
          · subst hjp; unfold NamC; omega
          · exact hN0 j hj (by omega)
        refine WC.skip ?_
        refine QN.thenW ?_
        refine WC.region ?_
        refine WL.pv (pv_move rfl) rfl ?_
        refine WL.pv (pv_add rfl rfl (by omega)) rfl ?_
        refine WL.pv (pv_assign rfl) rfl ?_
        refine WL.nil ?_
        refine QN.blockN ?_
        refine QN.roundE ?_
        refine ⟨(p + 1), (Sub.cons rfl (Sub.cons rfl (Sub.cons rfl Sub.nil))), ⟨by omega, hN1, by rw [hdec] at hS; exact hS⟩, ?_⟩
        first | omega | (dsimp only; omega)
  · skip
    refine WC.region ?_
    refine WL.nextEnd (k := 0) hS rfl rfl (by omega) rfl ?_
    refine WL.pv (pv_extL rfl rfl) rfl ?_
    refine WL.nil ?_
    refine QN.thenW ?_
    refine WC.seq ?_
    refine WC.condF rfl rfl ?_
    refine WC.exit ?_
    refine QN.thenX ?_
    refine QN.thenX ?_
    refine QN.blockX ?_
    refine QN.thenW ?_
    refine WC.seq ?_
    by_cases h1 : 1 ≤ p
    · skip
      refine WC.region ?_
      refine WL.pv (pv_move rfl) rfl ?_
      refine WL.pv (pv_geq rfl rfl) rfl ?_
      refine WL.pv (pv_move rfl) rfl ?_
      refine WL.guardT rfl rfl rfl (lkT rfl (by omega)) ?_
      refine WL.pv (pv_move rfl) rfl ?_
      refine WL.guardT rfl rfl rfl (lkT rfl (by omega)) ?_
      refine WL.pv (pv_leq rfl rfl) rfl ?_
      refine WL.pv (pv_pick1 (lkT rfl (by omega)) rfl) rfl ?_
      refine WL.pv (pv_assign rfl) rfl ?_
      refine WL.nil ?_
      refine QN.thenW ?_
      refine WC.ret ?_
      refine QN.ret1 rfl rfl ?_
      refine ⟨_, rfl, ⟨fun h => ⟨fun j hj => hN0 j hj (by omega), by omega, ?_⟩, fun h => ?_⟩, hS.fr⟩
      · have := of_decide_eq_true h; omega
      · have h2 := h.2; exact decide_eq_true (by omega)
    · skip
      refine WC.region ?_
      refine WL.pv (pv_move rfl) rfl ?_
      refine WL.pv (pv_geq rfl rfl) rfl ?_
      refine WL.pv (pv_move rfl) rfl ?_
      refine WL.guardF rfl rfl rfl (lkF rfl (by omega)) rfl rfl ?_
      refine WL.guardF rfl rfl rfl (lkF rfl (by omega)) rfl rfl ?_
      refine WL.pv (pv_pick0 (lkF rfl (by omega)) rfl) rfl ?_
      refine WL.pv (pv_assign rfl) rfl ?_
      refine WL.nil ?_
      refine QN.thenW ?_
      refine WC.ret ?_
      refine QN.ret1 rfl rfl ?_
      exact ⟨false, rfl, ⟨fun h => by simp at h, fun h => absurd h.2.1 (by omega)⟩, hS.fr⟩

set_option maxRecDepth 100000 in
theorem refNamed_c (s : ByteArray) (w0 : World) (hs : s.size ≤ 1000) : Calls Try.prog 70 #[.string s] w0 (NamPost s w0) := by
  refine calls_of_WC (args := [.string s]) Try.func70 rfl Try.ntmps70 rfl ?_
  show WC _ _ _ _ [(0, .string s)] _
  have hS := ST.start w0 No
  refine WC.seq ?_
  refine WC.region ?_
  refine WL.pv (pv_assign rfl) rfl ?_
  refine WL.nil ?_
  refine QN.thenW ?_
  refine WC.seq ?_
  refine WC.seq ?_
  refine WC.region ?_
  refine WL.pv (pv_assign rfl) rfl ?_
  refine WL.nil ?_
  refine QN.thenW ?_
  refine WC.block ?_
  refine WC.loop (α := Nat) (fun p => [(0, .string s), (3, .int .i64 (p : Int))]) (fun p w => p ≤ s.size ∧ (∀ j (hj : j < s.size), j < p → NamC s[j]) ∧ ST w0 No w []) (fun p => s.size - p) (0) (Sub.cons rfl (Sub.cons rfl Sub.nil)) ⟨by omega, fun j hj h => absurd h (by omega), hS⟩ ?_
  rintro p w N hN hR
  obtain ⟨hp, hN0, hS⟩ := hR
  refine WC.seq ?_
  refine WC.seq ?_
  refine WC.region ?_
  refine WL.pv (pv_move rfl) rfl ?_
  refine WL.pv (pv_move rfl) rfl ?_
  refine WL.pv (pv_lenStr Try.underlying9 rfl) rfl ?_
  refine WL.pv (pv_lss rfl rfl) rfl ?_
  refine WL.nil ?_
  refine QN.thenW ?_
  refine WC.condD rfl (fun hc7 => ?_) (fun hc7 => ?_)
  · skip
    have hps : p < s.size := by omega
    refine WC.skip ?_
    refine QN.thenW ?_
    refine WC.seq ?_
    refine WC.block ?_
    refine WC.seq ?_
    by_cases hlo : s[p].toNat < 32
    · skip
      refine WC.region ?_
      refine WL.pv (pv_move rfl) rfl ?_
      refine WL.pv (pv_move rfl) rfl ?_
      refine WL.pv (pv_indexStr (j := p) Try.underlying9 rfl rfl (by omega) (by omega)) rfl ?_
      refine WL.pv (pv_lss rfl rfl) rfl ?_
      refine WL.pv (pv_move rfl) rfl ?_
      refine WL.guardF rfl rfl rfl (lkT rfl (by omega)) rfl rfl ?_
      refine WL.guardF rfl rfl rfl (lkT rfl (by omega)) rfl rfl ?_
      refine WL.guardF rfl rfl rfl (lkT rfl (by omega)) rfl rfl ?_
      refine WL.guardF rfl rfl rfl (lkT rfl (by omega)) rfl rfl ?_
      refine WL.pv (pv_pick1 (lkT rfl (by omega)) rfl) rfl ?_
      refine WL.nil ?_
      refine QN.thenW ?_
      refine WC.condT rfl rfl ?_
      refine WC.seq ?_
      refine WC.region ?_
      refine WL.pv (pv_assign rfl) rfl ?_
      refine WL.nil ?_
      refine QN.thenW ?_
      refine WC.ret ?_
      refine QN.blockR ?_
      refine QN.thenR ?_
      refine QN.thenR ?_
      refine QN.blockR ?_
      refine QN.thenR ?_
      refine QN.ret1 rfl rfl ?_
      exact ⟨false, rfl, ⟨fun h => by simp at h, fun h => by have := h.1 p hps; unfold NamC at this; omega⟩, hS.fr⟩
    · skip
      refine WC.region ?_
      refine WL.pv (pv_move rfl) rfl ?_
      refine WL.pv (pv_move rfl) rfl ?_
      refine WL.pv (pv_indexStr (j := p) Try.underlying9 rfl rfl (by omega) (by omega)) rfl ?_
      refine WL.pv (pv_lss rfl rfl) rfl ?_
      refine WL.pv (pv_move rfl) rfl ?_
      refine WL.guardT rfl rfl rfl (lkF rfl (by omega)) ?_
      refine WL.pv (pv_move rfl) rfl ?_
      refine WL.guardT rfl rfl rfl (lkF rfl (by omega)) ?_
      refine WL.pv (pv_move rfl) rfl ?_
      refine WL.guardT rfl rfl rfl (lkF rfl (by omega)) ?_
      refine WL.pv (pv_indexStr (j := p) Try.underlying9 rfl rfl (by omega) (by omega)) rfl ?_
      refine WL.guardT rfl rfl rfl (lkF rfl (by omega)) ?_
      refine WL.pv (pv_gtr rfl rfl) rfl ?_
      refine WL.pv (pv_pick0 (lkF rfl (by omega)) rfl) rfl ?_
      refine WL.nil ?_
      refine QN.thenW ?_
      refine WC.condD rfl (fun hc19 => ?_) (fun hc19 => ?_)
      · skip
        have hout : ¬ Nam s := fun h => by have := h.1 p hps; unfold NamC at this; omega
        refine WC.seq ?_
        refine WC.region ?_
        refine WL.pv (pv_assign rfl) rfl ?_
        refine WL.nil ?_
        refine QN.thenW ?_
        refine WC.ret ?_
        refine QN.blockR ?_
        refine QN.thenR ?_
        refine QN.thenR ?_
        refine QN.blockR ?_
        refine QN.thenR ?_
        refine QN.ret1 rfl rfl ?_
        exact ⟨false, rfl, ⟨fun h => by simp at h, fun h => absurd h hout⟩, hS.fr⟩
      · skip
        have hN1 : ∀ j (hj : j < s.size), j < p + 1 → NamC s[j] := fun j hj h => by
          by_cases hjp : j = p
          · subst hjp; unfold NamC; omega
          · exact hN0 j hj (by omega)
        refine WC.skip ?_
        refine QN.blockN ?_
        refine QN.thenW ?_
        refine WC.region ?_
        refine WL.pv (pv_move rfl) rfl ?_
        refine WL.pv (pv_add rfl rfl (by omega)) rfl ?_
        refine WL.pv (pv_assign rfl) rfl ?_
        refine WL.nil ?_
        refine QN.roundE ?_
        refine ⟨(p + 1), (Sub.cons rfl (Sub.cons rfl Sub.nil)), ⟨by omega, hN1, hS⟩, ?_⟩
        first | omega | (dsimp only; omega)
  · skip
    refine WC.exit ?_
    refine QN.thenX ?_
    refine QN.thenX ?_
    refine QN.blockX ?_
    refine QN.thenW ?_
    refine WC.seq ?_
    by_cases h1 : 1 ≤ s.size
    · skip
      refine WC.region ?_
      refine WL.pv (pv_move rfl) rfl ?_
      refine WL.pv (pv_lenStr Try.underlying9 rfl) rfl ?_
      refine WL.pv (pv_geq rfl rfl) rfl ?_
      refine WL.pv (pv_move rfl) rfl ?_
      refine WL.guardT rfl rfl rfl (lkT rfl (by omega)) ?_
      refine WL.pv (pv_move rfl) rfl ?_
      refine WL.guardT rfl rfl rfl (lkT rfl (by omega)) ?_
      refine WL.pv (pv_lenStr Try.underlying9 rfl) rfl ?_
      refine WL.guardT rfl rfl rfl (lkT rfl (by omega)) ?_
      refine WL.pv (pv_leq rfl rfl) rfl ?_
      refine WL.pv (pv_pick1 (lkT rfl (by omega)) rfl) rfl ?_
      refine WL.pv (pv_assign rfl) rfl ?_
      refine WL.nil ?_
      refine QN.thenW ?_
      refine WC.ret ?_
      refine QN.ret1 rfl rfl ?_
      refine ⟨_, rfl, ⟨fun h => ⟨fun j hj => hN0 j hj (by omega), by omega, ?_⟩, fun h => ?_⟩, hS.fr⟩
      · have := of_decide_eq_true h; omega
      · have h2 := h.2; exact decide_eq_true (by omega)
    · skip
      refine WC.region ?_
      refine WL.pv (pv_move rfl) rfl ?_
      refine WL.pv (pv_lenStr Try.underlying9 rfl) rfl ?_
      refine WL.pv (pv_geq rfl rfl) rfl ?_
      refine WL.pv (pv_move rfl) rfl ?_
      refine WL.guardF rfl rfl rfl (lkF rfl (by omega)) rfl rfl ?_
      refine WL.guardF rfl rfl rfl (lkF rfl (by omega)) rfl rfl ?_
      refine WL.guardF rfl rfl rfl (lkF rfl (by omega)) rfl rfl ?_
      refine WL.pv (pv_pick0 (lkF rfl (by omega)) rfl) rfl ?_
      refine WL.pv (pv_assign rfl) rfl ?_
      refine WL.nil ?_
      refine QN.thenW ?_
      refine WC.ret ?_
      refine QN.ret1 rfl rfl ?_
      exact ⟨false, rfl, ⟨fun h => by simp at h, fun h => absurd h.2.1 (by omega)⟩, hS.fr⟩

end Go.Proofs.Ytjcebkhhgdgohaa
