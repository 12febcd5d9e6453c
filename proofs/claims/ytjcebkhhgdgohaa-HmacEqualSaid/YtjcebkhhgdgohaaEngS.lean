/- The engine: rules by which a run of a function is read off, part S. -/
import Derived.Test.YtjcebkhhgdgohaaEngR
namespace Go.Eng
open Go Go.RowKit
section
variable {P : Program} {n : Md} {ops : Array Oper} {Q : QT} {rest : List Oper} {l : Env} {w w' w0 : World} {M : Nat → Prop} {hp : List Ent} {d : Nat} {ty : TypeId} {pos : String} {af : Array Edge} {v : Value} {T U : TypeId} {x y z : Operand}
theorem run_copy {e by_ : Nat} {b o dl dc m c : Nat} {t : TypeId} {A : Option Addr} {cs ys : List Value} (hT : slT P T = some (e, 1, by_)) (hB : Bk w b t cs) (hr : Rs w (.slice A m c) 1 ys) (h1 : ∀ u ∈ ys, u.oneCell' = true) (hfit : o + dl ≤ cs.length) :
    (Builtin.copy_ #[T, U] ty #[.slice (some ⟨b, o, none⟩) dl dc, .slice A m c]).run P w = .ok (.int .i64 ((min m dl : Nat) : Int)) (w.setRow b (cs.take o ++ ys.take (min m dl) ++ cs.drop (o + min m dl)).toArray) := by
  have hl := hr.len
  obtain ⟨A', n', c', he, _, hf⟩ := run_first (P := P) (hr.cutH (b := min m dl) (Nat.min_le_left _ _))
  injection he with e1 e2 e3; subst e1; subst e2; subst e3
  have hf' : (Builtin.firstCells 1 (min m dl) (.slice A m c)).run P w = .ok (ys.take (min m dl)).toArray w := by
    cases A <;> exact hf
  have hlen : (ys.take (min m dl)).length = min m dl := by rw [List.length_take]; omega
  have hst := run_storeCells_bk (P := P) b o t (ys.take (min m dl)) 0 cs w hB (by rw [hlen]; omega) (fun u hu => h1 u (List.mem_of_mem_take hu))
  simp only [Nat.add_zero, hlen] at hst
  unfold slT at hT
  cases hu : P.underlying T with
  | none => simp [hu] at hT
  | some u =>
  cases u <;> simp [hu] at hT
  obtain ⟨i, hi, rfl, hi1, rfl⟩ := hT
  have hmin : Nat.min m dl = min m dl := rfl
  simp [Builtin.copy_, run_underlying hu, Builtin.lenOf, sizeOf, typeInfo, hi, hi1, hmin, hf', hst, goInt]
theorem Rs.frN {N : Nat → Prop} {sz : Nat} {xs : List Value} (h : Rs w v sz xs) (hf : Fr N w w') (hm : 0 < xs.length → ∀ b, v.ownBlock = some b → ¬ N b) : Rs w' v sz xs := by
  by_cases h0 : 0 < xs.length
  · exact h.fr hf (hm h0)
  · obtain ⟨A, m, c, he, g1, g2, g3, _⟩ := h
    exact ⟨A, m, c, he, g1, g2, g3, .inl (List.eq_nil_of_length_eq_zero (by omega))⟩
theorem Rs.ownLt {sz : Nat} {xs : List Value} (h : Rs w v sz xs) (hne : 0 < xs.length) {b : Nat} (hb : v.ownBlock = some b) : b < w.heap.size := by
  obtain ⟨A, m, c, rfl, g1, g2, g3, g4⟩ := h
  rcases g4 with rfl | ⟨g, o, rfl, g4⟩
  · simp at hne
  · have : g = b := by simpa [Value.ownBlock] using hb
    subst this
    exact World.block_lt_of_cell? w _ (g4 0 _ (List.getElem?_eq_getElem hne))
/-- Cells copied into a block of the call's own. -/
theorem WL.copy {k e by_ : Nat} {b o dl dc m c : Nat} {t : TypeId} {A : Option Addr} {cs ys : List Value} (hS : ST w0 M w hp) (hT : slT P T = some (e, 1, by_)) (hx : ev l x = some (.slice (some ⟨b, o, none⟩) dl dc)) (hk : hp[k]? = some (.blk b t cs)) (hy : ev l y = some (.slice A m c)) (hr : Rs w (.slice A m c) 1 ys) (h1 : ∀ u ∈ ys, u.oneCell' = true) (hfit : o + dl ≤ cs.length) (hd : Nat.blt d n.tmps = true)
    (K : ∀ w', Fr (fun q => q = b) w w' → ST w0 M w' (hp.set k (.blk b t (cs.take o ++ ys.take (min m dl) ++ cs.drop (o + min m dl)))) → WL P n ops Q rest ((d, .int .i64 ((min m dl : Nat) : Int)) :: l) w') :
    WL P n ops Q (⟨some d, .call { callee := .builtin .copy, args := #[x, y], argTypes := #[T, U] }, ty, pos, af, none⟩ :: rest) l w := by
  have hl := hr.len
  refine WL.wv (fun ρ hρ => ?_) hd (K _ (Fr.setRow w b _ rfl) (hS.setRow hk (cs' := cs.take o ++ ys.take (min m dl) ++ cs.drop (o + min m dl)) (by simp; omega)))
  simp [execOp, resolve, invoke, builtin, hρ _ _ hx, hρ _ _ hy, run_copy (P := P) (ty := ty) (U := U) hT (hS.bk hk) hr h1 hfit]
end
end Go.Eng
