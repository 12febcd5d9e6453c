/- The engine: rules by which a run of a function is read off, part G. -/
import Derived.Test.YtjcebkhhgdgohaaEngF
namespace Go.Eng
open Go Go.RowKit

theorem run_first {P : Program} {w : World} {x : Value} {sz : Nat} {ys : List Value} (h : Rs w x sz ys) : ∃ A m c, x = .slice A m c ∧ ys.length = m * sz ∧ (Builtin.firstCells sz m (.slice A m c)).run P w = .ok ys.toArray w := by
  obtain ⟨A, m, c, rfl, _, _, h3, h4⟩ := h
  refine ⟨A, m, c, rfl, h3, ?_⟩
  rcases h4 with rfl | ⟨b, o, rfl, h4⟩
  · have hm : m * sz = 0 := by simpa using h3.symm
    cases A with
    | none => exact run_firstCells_none w sz m m c
    | some a => simp [Builtin.firstCells, hm, loadCells, loadCellsFrom]
  · exact run_firstCells_some w sz m _ m c ys h3 (fun j u hu => by rw [add0]; exact h4 j u hu)

theorem size_zeros (z : Array Value) (n : Nat) : (Builtin.zeroCells z n).toList.length = n * z.size := by simp [Builtin.zeroCells]

/-- append onto a row of one's own, of whatever is read. -/
theorem run_append {P : Program} {w : World} {T ty e : TypeId} {sz by_ N : Nat} {v x : Value} {xs ys : List Value} (hT : slT P T = some (e, sz, by_)) (hz : (zeroT P e).map List.length = some sz) (hsz : 0 < sz)
    (hv : Rw w v e sz xs) (hx : Rs w x sz ys) (h1 : ∀ u ∈ ys, u.oneCell' = true) (hN : xs.length + ys.length ≤ N * sz) (hb : N * by_ ≤ 140737488355328) (hN2 : N ≤ maxLen) :
    ∃ v' w', (Builtin.append_ #[T, T] ty #[v, x]).run P w = .ok v' w' ∧ Fr (fun b => v.ownBlock = some b) w w' ∧ Rw w' v' e sz (xs ++ ys) ∧ (∀ b, v'.ownBlock = some b → v.ownBlock = some b ∨ w.heap.size ≤ b) ∧ Rs w' v sz xs := by
  have hvr := hv.rs
  unfold slT at hT
  cases hu : P.underlying T with
  | none => simp [hu] at hT
  | some u =>
  cases u <;> simp [hu] at hT
  obtain ⟨i, hi, rfl, rfl, rfl⟩ := hT
  rename_i e
  have hz' : ∃ z, i.zero = some z ∧ z.cells.size = i.size := by
    unfold zeroT at hz
    rw [hi] at hz
    cases hzz : i.zero with
    | none => simp [hzz] at hz
    | some z => exact ⟨z, rfl, by simpa [hzz] using hz⟩
  obtain ⟨z, hz1, hz2⟩ := hz'
  obtain ⟨A, m, c, rfl, hl, _⟩ := run_first (P := P) hx
  have hf : ∀ w', Fr No w w' → (Builtin.firstCells i.size m (.slice A m c)).run P w' = .ok ys.toArray w' := by
    intro w' hw
    obtain ⟨A', m', c', he, hl', hr⟩ := run_first (P := P) (hx.no hw)
    injection he with e1 e2 e3; subst e1; subst e2; subst e3
    exact hr
  have zlen : ∀ n, (Builtin.zeroCells z.cells n).toList.length = n * i.size := fun n => by rw [size_zeros, hz2]
  -- a new block
  have grown : ∀ (n old : Nat), xs.length = n * i.size → old < n + m →
      ∀ cap, cap = grownCap w (n + m) old e →
      Fr No w (w.drew.alloc (.cells (xs.toArray ++ ys.toArray ++ Builtin.zeroCells z.cells (cap - (n + m))) e)) ∧
      Rw (w.drew.alloc (.cells (xs.toArray ++ ys.toArray ++ Builtin.zeroCells z.cells (cap - (n + m))) e)) (.slice (some ⟨w.heap.size, 0, none⟩) (n + m) cap) e i.size (xs ++ ys) := by
    intro n old hn ho cap hcap
    have hge : n + m ≤ cap := by rw [hcap]; exact grownCap_ge w (n + m) old e
    have hnm : n + m ≤ N := by
      have : (n + m) * i.size ≤ N * i.size := by rw [Nat.add_mul, ← hn, ← hl]; exact hN
      exact Nat.le_of_mul_le_mul_right this hsz
    have hcm : cap ≤ maxLen := by rw [hcap]; exact grownCap_le_maxLen w (n + m) old e (Nat.le_trans hnm hN2)
    refine ⟨(Fr.drew w).trans (Fr.alloc w.drew _) (fun _ _ h => h), .inr ⟨w.heap.size, n + m, cap, (Builtin.zeroCells z.cells (cap - (n + m))).toList, rfl, ?_, ?_, hge, hcm, ?_⟩⟩
    · have := Bk.new w.drew e (xs ++ ys ++ (Builtin.zeroCells z.cells (cap - (n + m))).toList)
      have e1 : (xs ++ ys ++ (Builtin.zeroCells z.cells (cap - (n + m))).toList).toArray = xs.toArray ++ ys.toArray ++ Builtin.zeroCells z.cells (cap - (n + m)) := by
        apply Array.ext'; simp
      rw [e1] at this
      exact this
    · simp [hn, hl, Nat.add_mul]
    · rw [List.length_append, List.length_append, hn, hl, zlen, ← Nat.add_mul, ← Nat.add_mul]; congr 1; omega
  rcases hv with ⟨rfl, rfl⟩ | ⟨g, n, cap, sp, rfl, hk, hn, hnc, hcm, hlen⟩
  · by_cases h0 : m = 0
    · subst h0
      have hy : ys = [] := List.eq_nil_of_length_eq_zero (by simpa using hl)
      subst hy
      refine ⟨.slice none 0 0, w, ?_, .refl _, .inl ⟨rfl, rfl⟩, by simp [Value.ownBlock], hvr⟩
      have := hf w (.refl _)
      simp [Builtin.append_, run_underlying hu, sizeOf, typeInfo, hi, Builtin.lenOf, this]
    · have hm : ¬ m ≤ 0 := by omega
      have hmN : m ≤ N := by
        have : m * i.size ≤ N * i.size := by rw [← hl]; simpa using hN
        exact Nat.le_of_mul_le_mul_right this hsz
      have h63 : ¬ (9223372036854775807 < (m : Int)) := by have := hN2; simp only [maxLen] at this; omega
      have h48 : ¬ (281474976710656 < Builtin.nextslicecap m 0 * i.bytes) := by
        rw [nextslicecap_zero (by omega)]
        have : m * i.bytes ≤ N * i.bytes := Nat.mul_le_mul_right _ hmN
        omega
      have g1 := grown 0 0 (by simp) (by omega) _ rfl
      have hfd := hf w.drew (Fr.drew w)
      refine ⟨.slice (some ⟨w.heap.size, 0, none⟩) (0 + m) (grownCap w (0 + m) 0 e), _, ?_, g1.1.no, g1.2, fun b hb => .inr (by simp [Value.ownBlock] at hb; omega), hvr.no g1.1⟩
      simp [Builtin.append_, run_underlying hu, sizeOf, typeInfo, zeroValue, hi, hz1, Builtin.lenOf, h0, h63, h48, Question.forced, run_firstCells_none, hfd, newRow, grownCap]
  · have hnm : n + m ≤ N := by
      have : (n + m) * i.size ≤ N * i.size := by rw [Nat.add_mul, ← hn, ← hl]; exact hN
      exact Nat.le_of_mul_le_mul_right this hsz
    by_cases hroom : n + m ≤ cap
    · have hfw := hf w (.refl _)
      have hfit : n * i.size + ys.length ≤ (xs ++ sp).length := by rw [hlen, hl, ← Nat.add_mul]; exact Nat.mul_le_mul_right _ hroom
      have hst := run_storeCells_bk (P := P) g (n * i.size) e ys 0 (xs ++ sp) w hk (by simpa using hfit) h1
      simp only [Nat.add_zero] at hst
      have e1 : (xs ++ sp).take (n * i.size) ++ ys ++ (xs ++ sp).drop (n * i.size + ys.length) = xs ++ ys ++ sp.drop ys.length := by
          rw [← hn, List.take_left, List.drop_append]
          simp
      have hB : Bk (w.setRow g ((xs ++ sp).take (n * i.size) ++ ys ++ (xs ++ sp).drop (n * i.size + ys.length)).toArray) g e (xs ++ ys ++ sp.drop ys.length) := by
        rw [e1]
        refine Bk.set hk ?_
        simp at hlen hfit ⊢; omega
      refine ⟨.slice (some ⟨g, 0, none⟩) (n + m) cap, w.setRow g ((xs ++ sp).take (n * i.size) ++ ys ++ (xs ++ sp).drop (n * i.size + ys.length)).toArray, ?_, Fr.setRow w g _ rfl, .inr ⟨g, n + m, cap, sp.drop ys.length, rfl, ?_, ?_, hroom, hcm, ?_⟩, fun b hb => .inl hb, ⟨_, _, _, rfl, hnc, hcm, hn, .inr ⟨g, 0, rfl, fun j u hu => by rw [Nat.zero_add, hB.cell, List.append_assoc, List.getElem?_append_left (getElem?_lt hu)]; exact hu⟩⟩⟩
      · simp [Builtin.append_, run_underlying hu, sizeOf, typeInfo, hi, Builtin.lenOf, hroom, hfw, add0, hst]
      · exact hB
      · simp [hn, hl, Nat.add_mul]
      · simp at hlen hfit ⊢; omega
    · have hroom' : ¬ n + m ≤ cap := hroom
      have h63 : ¬ (9223372036854775807 < ((n : Int) + (m : Int))) := by have := hN2; simp only [maxLen] at this; omega
      have h48 : ¬ (281474976710656 < Builtin.nextslicecap (n + m) cap * i.bytes) := by
        have := growslice_fits (bytes := i.bytes) (old := cap) (need := n + m) (by omega) (by
          have : (n + m) * i.bytes ≤ N * i.bytes := Nat.mul_le_mul_right _ hnm
          omega)
        omega
      have g1 := grown n cap hn (by omega) _ rfl
      have hfd := hf w.drew (Fr.drew w)
      have hold : (Builtin.firstCells i.size n (.slice (some ⟨g, 0, none⟩) n cap)).run P w.drew = .ok xs.toArray w.drew :=
        run_firstCells_some w.drew i.size n _ n cap xs hn (fun j u hu => by
          rw [add0, World.cell?_drew, hk.cell, Nat.zero_add, List.getElem?_append_left (getElem?_lt hu)]; exact hu)
      refine ⟨.slice (some ⟨w.heap.size, 0, none⟩) (n + m) (grownCap w (n + m) cap e), _, ?_, g1.1.no, g1.2, fun b hb => .inr (by simp [Value.ownBlock] at hb; omega), hvr.no g1.1⟩
      simp [Builtin.append_, run_underlying hu, sizeOf, typeInfo, zeroValue, hi, hz1, Builtin.lenOf, hroom', h63, h48, Question.forced, hfd, hold, newRow, grownCap]
      congr 2
      apply Array.ext'
      simp [List.append_assoc]
end Go.Eng
