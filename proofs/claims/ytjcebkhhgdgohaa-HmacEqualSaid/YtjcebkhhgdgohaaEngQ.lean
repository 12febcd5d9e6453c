/- The engine: rules by which a run of a function is read off, part Q. -/
import Derived.Test.YtjcebkhhgdgohaaEngO
import Derived.Deep.Slices
namespace Go.Eng
open Go Go.RowKit Go.ChangeShapes Go.WideShapes
section
variable {H : Type} {enc : TypeId × Value → H} {P : Program} {w : World} {base : Nat}
/-- Bytes that came in. -/
theorem rs_of_trod {t e : TypeId} {fuel : Nat} {v : Value} {x : DataW H × List MemPlace} (ht : P.underlying t = some (.slice e)) (he : P.underlying e = some (.int .u8)) (hc : P.cellsOf e = 1)
    (h : DataW.trod enc P w base (fun _ => true) true fuel t [v] = some x) : ∃ bl, Rs w v 1 (bs8 bl) := by
  rcases open_ints ht he hc h with ⟨hcs, _⟩ | ⟨a, l, c, zs, hcs, _, hl, hm, hz, _, hcell, hwz⟩
  · injection hcs with hcs; subst hcs
    exact rs_of_row (zs := []) (.inl ⟨rfl, rfl, rfl, rfl⟩)
  · injection hcs with hcs; subst hcs
    exact rs_of_row (zs := zs) (.inr ⟨a, rfl, hl, hm, by simpa using hz, hcell, hwz⟩)
/-- A slice of byte slices that came in. -/
theorem rsL_of_trod {t s e : TypeId} {fuel : Nat} {v : Value} {x : DataW H × List MemPlace} (ht : P.underlying t = some (.slice s)) (hs : P.underlying s = some (.slice e)) (he : P.underlying e = some (.int .u8)) (hcs : P.cellsOf s = 1) (hc : P.cellsOf e = 1)
    (h : DataW.trod enc P w base (fun _ => true) true fuel t [v] = some x) : ∃ ls, RsL w v ls := by
  rcases Go.Deep.open_slice1 ht hcs h with ⟨hv, _⟩ | ⟨a, len, cap, m, n, V, D, Pl, hv, _, hl, hm, hmm, _, hx⟩
  · injection hv with hv; subst hv
    exact ⟨[], [], ⟨none, 0, 0, rfl, Nat.le_refl _, by simp [maxLen], by simp, .inl rfl⟩, rfl, fun i hi => by simp at hi⟩
  · injection hv with hv; subst hv
    obtain rfl : m = cap := by simpa using hmm
    have hb : ∀ i, i < len → ∃ bl, Rs w (V i) 1 (bs8 bl) := fun i hi => rs_of_trod hs he hc (hx i (by omega)).2
    obtain ⟨f, hf⟩ := Go.Deep.choose_lt (α := List UInt8) hb
    refine ⟨(List.range len).map f, (List.range len).map V, ⟨some a, len, m, rfl, hl, hm, by simp, ?_⟩, by simp, fun i hi hj => by simp at hi; simp; exact hf i hi⟩
    by_cases h0 : 0 < len
    · obtain ⟨b, off, spot⟩ := a
      have hspot : spot = none := by simpa [Addr.add] using World.cell?_spot (hx 0 (by omega)).1
      subst hspot
      refine .inr ⟨b, off, rfl, fun j u hu => ?_⟩
      have hj := getElem?_lt hu
      rw [List.length_map, List.length_range] at hj
      rw [List.getElem?_map, List.getElem?_range hj] at hu
      injection hu with hu; subst hu
      rw [← add_plain]; exact (hx j (by omega)).1
    · exact .inl (by simp; omega)
end
section
variable {P : Program} {n : Md} {w w' w0 : World} {M : Nat → Prop} {hp : List Ent} {l : Env} {v : Value} {d : Nat} {ty : TypeId} {pos : String} {af : Array Edge} {T U : TypeId} {x y z : Operand}
theorem Rs.cut8 {A : Option Addr} {m c a b : Nat} {bl : List UInt8} (h : Rs w (.slice A m c) 1 (bs8 bl)) (hab : a ≤ b) (hbm : b ≤ m) : Rs w (.slice (if c = a then A else A.map (·.add (a * 1))) (b - a) (c - a)) 1 (bs8 ((bl.drop a).take (b - a))) := by
  have := h.cut hab hbm
  rwa [show ((bs8 bl).drop (a * 1)).take ((b - a) * 1) = bs8 ((bl.drop a).take (b - a)) from by rw [Nat.mul_one, Nat.mul_one, bs8, bs8, List.map_take, List.map_drop]] at this
theorem Rs.cutH8 {A : Option Addr} {m c b : Nat} {bl : List UInt8} (h : Rs w (.slice A m c) 1 (bs8 bl)) (hbm : b ≤ m) : Rs w (.slice A b c) 1 (bs8 (bl.take b)) := by
  have := h.cutH hbm
  rwa [show (bs8 bl).take b = bs8 (bl.take b) from by rw [bs8, bs8, List.map_take]] at this
theorem pv_minN {k : IntKind} {a b : Nat} (hx : ev l x = some (.int k (a : Int))) (hy : ev l y = some (.int k (b : Int))) :
    PV P l ⟨some d, .call { callee := .builtin .min, args := #[x, y], argTypes := #[T, U] }, ty, pos, af, none⟩ (.int k ((min a b : Nat) : Int)) := by
  rw [show ((min a b : Nat) : Int) = if (b : Int) < (a : Int) then (b : Int) else (a : Int) from by omega]; exact pv_min hx hy
theorem pv_maxN {k : IntKind} {a b : Nat} (hx : ev l x = some (.int k (a : Int))) (hy : ev l y = some (.int k (b : Int))) :
    PV P l ⟨some d, .call { callee := .builtin .max, args := #[x, y], argTypes := #[T, U] }, ty, pos, af, none⟩ (.int k ((max a b : Nat) : Int)) := by
  rw [show ((max a b : Nat) : Int) = if (a : Int) < (b : Int) then (b : Int) else (a : Int) from by omega]; exact pv_max hx hy
theorem wf_u8 {a : Int} (h : (Lit.int .u8 a).wf = true) : ∃ b : UInt8, a = (b.toNat : Int) := ⟨_, byteOf h⟩
theorem wf_u16 {a : Int} (h : (Lit.int .u16 a).wf = true) : ∃ b : Nat, b < 65536 ∧ a = (b : Int) := by
  simp [Lit.wf, IntKind.min, IntKind.max, IntKind.signed, IntKind.bits] at h
  exact ⟨a.toNat, by omega, by omega⟩
theorem wf_u32 {a : Int} (h : (Lit.int .u32 a).wf = true) : ∃ b : UInt32, a = (b.toNat : Int) := by
  simp [Lit.wf, IntKind.min, IntKind.max, IntKind.signed, IntKind.bits] at h
  exact ⟨UInt32.ofNat a.toNat, by rw [UInt32.toNat_ofNat']; omega⟩
theorem wf_u64 {a : Int} (h : (Lit.int .u64 a).wf = true) : ∃ b : UInt64, a = (b.toNat : Int) := by
  simp [Lit.wf, IntKind.min, IntKind.max, IntKind.signed, IntKind.bits] at h
  exact ⟨UInt64.ofNat a.toNat, by rw [UInt64.toNat_ofNat']; omega⟩
theorem wf_i64 {a : Int} (h : (Lit.int .i64 a).wf = true) : -9223372036854775808 ≤ a ∧ a ≤ 9223372036854775807 := by
  simp [Lit.wf, IntKind.min, IntKind.max, IntKind.signed, IntKind.bits] at h
  omega
end
end Go.Eng
