/- The engine: rules by which a run of a function is read off, part R. -/
import Derived.Test.YtjcebkhhgdgohaaEngQ
namespace Go.Eng
open Go Go.RowKit
section
variable {P : Program} {n : Md} {ops : Array Oper} {Q : QT} {rest : List Oper} {l : Env} {w w0 : World} {M : Nat → Prop} {hp : List Ent} {d : Nat} {ty : TypeId} {pos : String} {af : Array Edge} {v : Value} {T U : TypeId} {x y z : Operand}
/-- One of two may come up next. -/
theorem WH.two {S : World → Prop} {fuel : Nat} {listed m1 m2 : Array Bool} (i j : Nat) {o p : Oper} (hi : ops[i]? = some o) (hj : ops[j]? = some p) (hr : Region.ready .any ops listed = [i, j]) (h1 : listed.setIfInBounds i true = m1) (h2 : listed.setIfInBounds j true = m2)
    (k1 : WL P n ops (Exit.then (fun a w => S w ∧ wpAnyH P .any ops Q S fuel m1 a w) Q) [o] l w)
    (k2 : WL P n ops (Exit.then (fun a w => S w ∧ wpAnyH P .any ops Q S fuel m2 a w) Q) [p] l w) (hrd : n.rd = false := by rfl) : WH P n ops Q S (fuel + 1) listed l w := fun a ha => by
  subst h1; subst h2
  refine wpAnyH_all hr (by simp) fun q hq => ?_
  have hq' : q = i ∨ q = j := by simpa using hq
  rcases hq' with rfl | rfl
  · exact wpOp_of_WL hi hrd k1 ha
  · exact wpOp_of_WL hj hrd k2 ha
theorem WH.three {S : World → Prop} {fuel : Nat} {listed m1 m2 m3 : Array Bool} (i j g : Nat) {o p r : Oper} (hi : ops[i]? = some o) (hj : ops[j]? = some p) (hg : ops[g]? = some r) (hr : Region.ready .any ops listed = [i, j, g]) (h1 : listed.setIfInBounds i true = m1) (h2 : listed.setIfInBounds j true = m2) (h3 : listed.setIfInBounds g true = m3)
    (k1 : WL P n ops (Exit.then (fun a w => S w ∧ wpAnyH P .any ops Q S fuel m1 a w) Q) [o] l w)
    (k2 : WL P n ops (Exit.then (fun a w => S w ∧ wpAnyH P .any ops Q S fuel m2 a w) Q) [p] l w)
    (k3 : WL P n ops (Exit.then (fun a w => S w ∧ wpAnyH P .any ops Q S fuel m3 a w) Q) [r] l w) (hrd : n.rd = false := by rfl) : WH P n ops Q S (fuel + 1) listed l w := fun a ha => by
  subst h1; subst h2; subst h3
  refine wpAnyH_all hr (by simp) fun q hq => ?_
  have hq' : q = i ∨ q = j ∨ q = g := by simpa using hq
  rcases hq' with rfl | rfl | rfl
  · exact wpOp_of_WL hi hrd k1 ha
  · exact wpOp_of_WL hj hrd k2 ha
  · exact wpOp_of_WL hg hrd k3 ha
theorem pv_remN {a b : Nat} (hx : ev l x = some (.int .i64 (a : Int))) (hy : ev l y = some (.int .i64 (b : Int))) (h : 0 < b) : PV P l ⟨some d, .binOp .rem T x y U, ty, pos, af, none⟩ (.int .i64 ((a % b : Nat) : Int)) := by
  rw [Int.natCast_emod]; exact pv_rem hx hy (by omega)
theorem pv_quoN {a b : Nat} (hx : ev l x = some (.int .i64 (a : Int))) (hy : ev l y = some (.int .i64 (b : Int))) (h : 0 < b) (ha : a ≤ 9223372036854775807) : PV P l ⟨some d, .binOp .quo T x y U, ty, pos, af, none⟩ (.int .i64 ((a / b : Nat) : Int)) := by
  rw [Int.natCast_ediv]; exact pv_quo hx hy (by omega)
theorem ins_rel {α β : Type} (R : α → β → Prop) (xs : List α) (ys : List β) (K : Nat) (a : α) (b : β) (hl : xs.length = ys.length) (hK : K ≤ xs.length) (h : ∀ i (hi : i < xs.length) (hj : i < ys.length), R xs[i] ys[i]) (hab : R a b) :
    ∀ i (hi : i < (xs.take K ++ [a] ++ xs.drop K).length) (hj : i < (ys.take K ++ [b] ++ ys.drop K).length), R (xs.take K ++ [a] ++ xs.drop K)[i] (ys.take K ++ [b] ++ ys.drop K)[i] := by
  intro i hi hj
  have hi' : i < xs.length + 1 := by simp at hi; omega
  by_cases h1 : i < K
  · rw [List.getElem_append_left (by simp; omega), List.getElem_append_left (by simp; omega), List.getElem_append_left (by simp; omega), List.getElem_append_left (by simp; omega), List.getElem_take, List.getElem_take]
    exact h i _ _
  · by_cases h2 : i = K
    · subst h2
      have e1 : (xs.take i ++ [a] ++ xs.drop i)[i] = a := by simp [Nat.min_eq_left hK]
      have e2 : (ys.take i ++ [b] ++ ys.drop i)[i] = b := by simp [Nat.min_eq_left (show i ≤ ys.length by omega)]
      rw [e1, e2]; exact hab
    · rw [List.getElem_append_right (by simp; omega), List.getElem_append_right (by simp; omega), List.getElem_drop, List.getElem_drop]
      have e1 : K + (i - (xs.take K ++ [a]).length) = i - 1 := by simp; omega
      have e2 : K + (i - (ys.take K ++ [b]).length) = i - 1 := by simp; omega
      have h3 := h (i - 1) (by omega) (by omega)
      simp only [e1, e2]
      exact h3
theorem RsL.one {w : World} {vs : List Value} {ls : List (List UInt8)} (hl : vs.length = ls.length) (h : ∀ i (hi : i < vs.length) (hj : i < ls.length), Rs w vs[i] 1 (bs8 ls[i])) : ∀ u ∈ vs, u.oneCell' = true := by
  intro u hu
  obtain ⟨i, hi, rfl⟩ := List.getElem_of_mem hu
  obtain ⟨A, m, c, he, _⟩ := h i hi (by omega)
  rw [he]; rfl
end
end Go.Eng
