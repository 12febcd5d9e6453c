/- The engine: rules by which a run of a function is read off, part U. -/
import Derived.Test.YtjcebkhhgdgohaaEngT
namespace Go.Eng
open Go Go.RowKit
section
variable {w w' w0 w1 : World} {M : Nat → Prop} {hp hp1 : List Ent}
def Ours (hp : List Ent) (b : Nat) : Prop := ∃ e ∈ hp, e.block = some b
/-- From here on anew: what is ours may be turned. -/
theorem ST.base (h : ST w0 M w hp) : ST w (Ours hp) w hp :=
  ⟨.refl _, h.ok, fun e he _ hb => .inr ⟨e, he, hb⟩, h.sep⟩
theorem ST.rebase (h : ST w0 M w1 hp1) (k : ST w1 (Ours hp1) w hp) : ST w0 M w hp := by
  refine ⟨h.fr.trans k.fr (fun i hi hN => ?_), k.ok, fun e he b hb => ?_, k.sep⟩
  · obtain ⟨e, he, hb⟩ := hN
    rcases h.own e he i hb with h1 | h1
    · omega
    · exact h1
  · rcases k.own e he b hb with h1 | ⟨e', he', hb'⟩
    · exact .inl (Nat.le_trans h.fr.size h1)
    · exact h.own e' he' b hb'
/-- Byte slices in cells, apart from blocks that may turn. -/
def Els (w : World) (N : Nat → Prop) (cells : List Value) (ls : List (List UInt8)) : Prop :=
  cells.length = ls.length ∧ ∀ i (hi : i < cells.length) (hj : i < ls.length), Rs w cells[i] 1 (bs8 ls[i]) ∧ (0 < ls[i].length → ∀ b, cells[i].ownBlock = some b → ¬ N b)
theorem Els.nil {N : Nat → Prop} : Els w N [] [] := ⟨rfl, fun i hi => by simp at hi⟩
theorem Els.rsL {N : Nat → Prop} {u : Value} {cells : List Value} {ls : List (List UInt8)} (h : Els w N cells ls) (hu : Rs w u 1 cells) : RsL w u ls := ⟨cells, hu, h.1, fun i hi hj => (h.2 i hi hj).1⟩
theorem Els.one {N : Nat → Prop} {cells : List Value} {ls : List (List UInt8)} (h : Els w N cells ls) : ∀ u ∈ cells, u.oneCell' = true := RsL.one h.1 (fun i hi hj => (h.2 i hi hj).1)
theorem Els.step {cells : List Value} {ls : List (List UInt8)} (h : Els w (Ours hp1) cells ls) (k : ST w (Ours hp1) w' hp) : Els w' (Ours hp) cells ls := by
  refine ⟨h.1, fun i hi hj => ⟨(h.2 i hi hj).1.frN k.fr (fun h0 b hb => (h.2 i hi hj).2 (by rwa [bs8_len] at h0) b hb), fun h0 b hb hN => ?_⟩⟩
  obtain ⟨e, he, hbe⟩ := hN
  rcases k.own e he b hbe with h1 | h1
  · have := (h.2 i hi hj).1.ownLt (by rw [bs8_len]; exact h0) hb
    omega
  · exact (h.2 i hi hj).2 h0 b hb h1
theorem Els.no {N : Nat → Prop} {cells : List Value} {ls : List (List UInt8)} (h : Els w N cells ls) (hf : Fr No w w') : Els w' N cells ls :=
  ⟨h.1, fun i hi hj => ⟨(h.2 i hi hj).1.no hf, (h.2 i hi hj).2⟩⟩
theorem Els.add {N : Nat → Prop} {cells : List Value} {ls : List (List UInt8)} {u : Value} {l : List UInt8} (h : Els w N cells ls) (hu : Rs w u 1 (bs8 l)) (ha : 0 < l.length → ∀ b, u.ownBlock = some b → ¬ N b) : Els w N (cells ++ [u]) (ls ++ [l]) := by
  refine ⟨by simp [h.1], fun i hi hj => ?_⟩
  by_cases h1 : i < cells.length
  · have h2 : i < ls.length := by rw [← h.1]; exact h1
    rw [List.getElem_append_left h1]
    simp only [List.getElem_append_left h2]
    exact h.2 i h1 h2
  · have e1 : i = cells.length := by simp at hi; omega
    subst e1
    have hl := h.1
    have e2 : (cells ++ [u])[cells.length]'hi = u := by simp
    have e3 : (ls ++ [l])[cells.length]'hj = l := by simp [hl]
    rw [e2, e3]
    exact ⟨hu, ha⟩
/-- What was there at the beginning is none of ours. -/
theorem ST.notOurs {v : Value} {sz : Nat} {xs : List Value} (h : ST w0 No w hp) (hv : Rs w0 v sz xs) (h0 : 0 < xs.length) {b : Nat} (hb : v.ownBlock = some b) : ¬ Ours hp b := by
  rintro ⟨e, he, hbe⟩
  have := hv.ownLt h0 hb
  rcases h.own e he b hbe with h1 | h1
  · omega
  · exact h1
end
end Go.Eng
