/- The engine: rules by which a run of a function is read off, part M. -/
import Derived.Test.YtjcebkhhgdgohaaEngL
namespace Go.Eng
open Go Go.RowKit
section
variable {P : Program} {n : Md} {w w' w0 : World} {M : Nat → Prop} {hp : List Ent}
/-- 32-bit words as cells. -/
def ws (l : List UInt32) : List Value := l.map w32
theorem ws_len (l : List UInt32) : (ws l).length = l.length := by simp [ws]
theorem ws_at {l : List UInt32} {j : Nat} (h : j < l.length) : (ws l)[j]? = some (w32 l[j]) := by simp [ws, h]
theorem ws_app (l m : List UInt32) : ws (l ++ m) = ws l ++ ws m := by simp [ws]
theorem ws_one {l : List UInt32} : ∀ u ∈ ws l, u.oneCell' = true := by simp [ws, Value.oneCell']
theorem ws_snoc (l : List UInt32) (c : UInt32) : ws l ++ [w32 c] = ws (l ++ [c]) := by simp [ws]
theorem ws_nil : ws [] = [] := rfl
theorem Rw.formW {w : World} {v : Value} {t : TypeId} {l : List UInt32} (h : Rw w v t 1 (ws l)) (hne : 0 < l.length) : ∃ g m cap, v = .slice (some ⟨g, 0, none⟩) m cap ∧ m = l.length ∧ m ≤ cap ∧ cap ≤ maxLen := by
  rcases h with ⟨_, h⟩ | ⟨g, m, cap, sp, rfl, hk, h1, h2, h3, h4⟩
  · have := congrArg List.length h; rw [ws_len] at this; simp at this; simp [this] at hne
  · exact ⟨g, m, cap, rfl, by rw [ws_len] at h1; omega, h2, h3⟩
theorem Bk.toRw {b m sz : Nat} {t : TypeId} {cs : List Value} (h : Bk w b t cs) (hl : cs.length = m * sz) (hm : m ≤ maxLen) : Rw w (.slice (some ⟨b, 0, none⟩) m m) t sz cs :=
  .inr ⟨b, m, m, [], rfl, by simpa using h, hl, Nat.le_refl _, hm, by simpa using hl⟩
theorem ST.toRow {k b m sz : Nat} {t : TypeId} {cs : List Value} (h : ST w0 M w hp) (hk : hp[k]? = some (.blk b t cs)) (hl : cs.length = m * sz) (hm : m ≤ maxLen) : ST w0 M w (hp.set k (.row (.slice (some ⟨b, 0, none⟩) m m) t sz cs)) :=
  h.upd hk (.refl _) (Bk.toRw (h.at_ hk) hl hm) (fun b hb => .inl (by simpa [Ent.block, Value.ownBlock] using hb))
theorem ws_atD {l : List UInt32} {j : Nat} (h : j < l.length) : (ws l)[j]? = some (w32 (l.getD j 0)) := by simp [ws, h, List.getD]
/-- A part of a slice that is read. -/
theorem Rs.cut {A : Option Addr} {m c sz a b : Nat} {xs : List Value} (h : Rs w (.slice A m c) sz xs) (hab : a ≤ b) (hbm : b ≤ m) : Rs w (.slice (if c = a then A else A.map (·.add (a * sz))) (b - a) (c - a)) sz ((xs.drop (a * sz)).take ((b - a) * sz)) := by
  obtain ⟨A', m', c', he, h1, h2, h3, h4⟩ := h
  injection he with e1 e2 e3; subst e1; subst e2; subst e3
  have hz : b * sz ≤ m * sz := Nat.mul_le_mul_right _ hbm
  have hz2 : a * sz ≤ b * sz := Nat.mul_le_mul_right _ hab
  have hl : ((xs.drop (a * sz)).take ((b - a) * sz)).length = (b - a) * sz := by
    rw [List.length_take, List.length_drop, h3, Nat.sub_mul]; omega
  refine ⟨_, _, _, rfl, by omega, by omega, hl, ?_⟩
  rcases h4 with rfl | ⟨g, o, rfl, h4⟩
  · exact .inl (by simp)
  · by_cases hca : c = a
    · refine .inl (List.eq_nil_of_length_eq_zero (by rw [hl, show b - a = 0 from by omega, Nat.zero_mul]))
    · refine .inr ⟨g, o + a * sz, by
        rw [if_neg hca]; simp only [Option.map, Addr.add]
        by_cases h0 : a * sz = 0
        · rw [if_pos h0, h0]; rfl
        · rw [if_neg h0], fun j u hu => ?_⟩
      rw [List.getElem?_take, List.getElem?_drop] at hu
      split at hu
      · rw [Nat.add_assoc]; exact h4 _ u hu
      · simp at hu
theorem Rs.cutH {A : Option Addr} {m c b : Nat} {xs : List Value} (h : Rs w (.slice A m c) 1 xs) (hbm : b ≤ m) : Rs w (.slice A b c) 1 (xs.take b) := by
  have hl := h.len
  obtain ⟨A', m', c', he, h1, h2, h3, h4⟩ := h
  injection he with e1 e2 e3; subst e1; subst e2; subst e3
  refine ⟨_, _, _, rfl, by omega, by omega, by rw [List.length_take]; omega, ?_⟩
  rcases h4 with rfl | ⟨g, o, rfl, h4⟩
  · exact .inl (by simp)
  · refine .inr ⟨g, o, rfl, fun j u hu => ?_⟩
    rw [List.getElem?_take] at hu
    split at hu
    · exact h4 _ u hu
    · simp at hu
theorem ST.rcell {k g m c : Nat} {t : TypeId} {xs : List Value} (h : ST w0 M w hp) (hk : hp[k]? = some (.row (.slice (some ⟨g, 0, none⟩) m c) t 1 xs)) {j : Nat} {u : Value} (hu : xs[j]? = some u) : w.cell? ⟨g, 0 + j, none⟩ = some u := by
  have hj := getElem?_lt hu
  obtain ⟨b, o, he, _, _, _, h4⟩ := (h.rw_ hk).rs.at_ (by omega)
  injection he with he; injection he with e1 e2; subst e1; subst e2
  exact h4 j u hu
variable {l : Env} {v : Value} {d : Nat} {ty : TypeId} {pos : String} {af : Array Edge} {T U : TypeId} {x y z : Operand}
theorem pv_sliceLH {lo hi : Option Operand} {vl vh : Option Value} {A : Option Addr} {len cap e sz by_ a b : Nat} (hT : slT P T = some (e, sz, by_)) (hx : ev l x = some (.slice A len cap))
    (hl : optv l lo = some vl) (hh : optv l hi = some vh) (nl : bnd 0 vl = some (a : Int)) (nh : bnd len vh = some (b : Int)) (hab : a ≤ b) (hbc : b ≤ cap) :
    PV P l ⟨some d, .slice T x lo hi none, ty, pos, af, none⟩ (.slice (if cap = a then A else A.map (·.add (a * sz))) (b - a) (cap - a)) :=
  pv_sliceS (mx := none) (c := cap) hT hx hl hh rfl nl nh rfl (by simp) hab hbc (Nat.le_refl _)
end
end Go.Eng
