/- The engine: rules by which a run of a function is read off, part N. -/
import Derived.Test.YtjcebkhhgdgohaaEngM
import Derived.ChangeKeysEq
import Derived.Laws.IdiomStrings
namespace Go.Eng
open Go Go.RowKit
section
variable {P : Program} {n : Md} {ops : Array Oper} {Q : QT} {rest : List Oper} {l : Env} {w w' w0 : World} {M : Nat → Prop} {hp : List Ent} {d : Nat} {ty : TypeId} {pos : String} {af : Array Edge} {v : Value} {T U : TypeId} {x y z : Operand}
theorem Fr.freeze {M : Nat → Prop} (w : World) (a : Addr) (n : Nat) (hM : M a.block) : Fr M w (w.freeze a n) := by
  unfold World.freeze
  split
  · exact .refl _
  · refine ⟨rfl, rfl, rfl, by simp, fun k hk hn => ?_⟩
    simp only [Array.getElem?_modify]
    rw [if_neg (fun e : a.block = k => hn (by rw [← e]; exact hM))]
theorem Bk.freeze {b : Nat} {t : TypeId} {cs : List Value} (h : Bk w b t cs) : Bk (w.freeze ⟨b, cs.length, none⟩ 1) b t cs := by
  obtain ⟨⟨lo, hi⟩, h, hz⟩ := h
  unfold World.freeze
  rw [if_neg (by decide)]
  refine ⟨if lo == hi then (cs.length, cs.length + 1) else (min lo cs.length, max hi (cs.length + 1)), ?_, ?_⟩
  · simp only [Array.getElem?_modify, if_pos, h, Option.map_some]
  · split
    · exact .inr (Nat.le_refl _)
    · rename_i hne
      rcases hz with hz | hz
      · injection hz with h1 h2; subst h1; subst h2; simp at hne
      · exact .inr (by simp only at hz ⊢; omega)
theorem run_convS {b o m c : Nat} {e t : TypeId} {cs : List Value} (hT : P.underlying T = some (.slice e)) (he : P.underlying e = some (.int .u8)) (h : Bk w b t cs) :
    (convert T T (.slice (some ⟨b, o, none⟩) m c)).run P w = .ok (.slice (some ⟨b, o, none⟩) m c) (w.freeze ⟨b, cs.length, none⟩ 1) := by
  obtain ⟨fz, hh, _⟩ := h
  have hsh : w.shape? b = some (t, cs.length) := by unfold World.shape?; rw [hh]; simp
  simp [convert, run_underlying hT, run_underlying he, markStringish, hsh]
/-- Bytes made of a literal text. -/
theorem WL.convS {k b o m c : Nat} {e t : TypeId} {cs : List Value} (hS : ST w0 M w hp) (hT : P.underlying T = some (.slice e)) (he : P.underlying e = some (.int .u8)) (hk : hp[k]? = some (.blk b t cs)) (hx : ev l x = some (.slice (some ⟨b, o, none⟩) m c)) (hd : Nat.blt d n.tmps = true)
    (K : ∀ w', ST w0 M w' hp → WL P n ops Q rest ((d, .slice (some ⟨b, o, none⟩) m c) :: l) w') :
    WL P n ops Q (⟨some d, .convert T T x, ty, pos, af, none⟩ :: rest) l w := by
  refine WL.wv (fun ρ hρ => ?_) hd (K (w.freeze ⟨b, cs.length, none⟩ 1) ?_)
  · simp [execOp, hρ _ _ hx, run_convS hT he (hS.bk hk)]
  · have := hS.upd hk (w' := w.freeze ⟨b, cs.length, none⟩ 1) (e' := .blk b t cs) (Fr.freeze w _ 1 rfl) (hS.bk hk).freeze (fun _ h => .inl h)
    rwa [show hp.set k (.blk b t cs) = hp from by
      apply List.ext_getElem?
      intro i
      rw [List.getElem?_set]
      split
      · rename_i hi; subst hi; rw [if_pos (getElem?_lt hk)]; exact hk.symm
      · rfl] at this
/-- Bytes out of a string. -/
theorem WL.convStr {S e : TypeId} {s : ByteArray} (hS : ST w0 M w hp) (hs : P.underlying S = some .string) (hT : P.underlying T = some (.slice e)) (he : P.underlying e = some (.int .u8)) (hx : ev l x = some (.string s)) (hlen : s.size ≤ maxLen) (hd : Nat.blt d n.tmps = true)
    (K : ∀ v w', (∀ b, v.ownBlock = some b → w0.heap.size ≤ b) → ST w0 M w' (.row v e 1 (bs8 s.data.toList) :: hp) → WL P n ops Q rest ((d, v) :: l) w') :
    WL P n ops Q (⟨some d, .convert S T x, ty, pos, af, none⟩ :: rest) l w := by
  have hge : s.size ≤ grownCap w s.size 0 e := grownCap_ge w s.size 0 e
  have hcm : grownCap w s.size 0 e ≤ maxLen := grownCap_le_maxLen w s.size 0 e hlen
  have hbr : bytesRow s (grownCap w s.size 0 e) = (bs8 s.data.toList ++ List.replicate (grownCap w s.size 0 e - s.size) (b8 0)).toArray := by
    apply Array.ext'
    simp [bytesRow, bs8, b8]
  have hl : (bytesRow s (grownCap w s.size 0 e)).size = grownCap w s.size 0 e := by
    rw [hbr]; simp [bs8_len]; exact Nat.add_sub_cancel' hge
  refine WL.wv (fun ρ hρ => ?_) hd (K (.slice (some ⟨w.heap.size, 0, none⟩) s.size (grownCap w s.size 0 e)) (w.drew.alloc (.cells (bytesRow s (grownCap w s.size 0 e)) e ((bytesRow s (grownCap w s.size 0 e)).size, (bytesRow s (grownCap w s.size 0 e)).size + 1))) (fun b hb => by injection hb with hb; subst hb; exact hS.fr.size) ?_)
  · simp [execOp, hρ _ _ hx, run_bytes_of_string w S T e s hs hT he]
  · refine hS.add ((Fr.drew w).trans (Fr.alloc w.drew _) (fun _ _ h => h)) ?_ (fun b hb => by simp [Ent.block, Value.ownBlock] at hb; omega)
    refine .inr ⟨w.heap.size, s.size, grownCap w s.size 0 e, List.replicate (grownCap w s.size 0 e - s.size) (b8 0), rfl, ?_, by rw [bs8_len, Nat.mul_one]; rfl, hge, hcm, ?_⟩
    · refine ⟨((bytesRow s (grownCap w s.size 0 e)).size, (bytesRow s (grownCap w s.size 0 e)).size + 1), ?_, .inr ?_⟩
      · rw [← hbr]; exact heap_alloc_new w.drew _
      · rw [hbr]; simp
    · simp [bs8_len]
      have : s.data.size = s.size := rfl
      omega
/-- A string out of bytes. -/
theorem rv_convBytes {S e : TypeId} {A : Option Addr} {m c : Nat} {bl : List UInt8} (hs : P.underlying S = some (.slice e)) (he : P.underlying e = some (.int .u8)) (hT : P.underlying T = some .string) (hx : ev l x = some (.slice A m c)) (h : Rs w (.slice A m c) 1 (bs8 bl)) :
    RV P l w ⟨some d, .convert S T x, ty, pos, af, none⟩ (.string ⟨bl.toArray⟩) := by
  refine ⟨rfl, fun ρ hρ => ?_⟩
  obtain ⟨A', m', c', he', h1, h2, h3, h4⟩ := h
  injection he' with e1 e2 e3; subst e1; subst e2; subst e3
  have hm : m = bl.length := by rw [bs8_len] at h3; omega
  subst hm
  simp only [execOp, hρ _ _ hx]
  cases hA : A with
  | none =>
    have hbl : bl = [] := by
      rcases h4 with h4 | ⟨b, o, h4, _⟩
      · exact List.eq_nil_of_length_eq_zero (by have := congrArg List.length h4; simpa [bs8_len] using this)
      · rw [hA] at h4; cases h4
    subst hbl
    simp [convert, run_underlying hs, run_underlying he, run_underlying hT, Conv.bytesToString]
    rfl
  | some a =>
    have hc : ∀ j (hj : j < bl.length), w.cell? (a.add j) = some (.int .u8 (bl[j].toNat : Int)) := by
      intro j hj
      rcases h4 with h4 | ⟨b, o, h4, h5⟩
      · have := congrArg List.length h4; rw [bs8_len] at this; simp at this; simp [this] at hj
      · rw [hA] at h4; injection h4 with h4; subst h4
        have := h5 j _ (bs8_at hj)
        unfold Addr.add
        split
        · rename_i h0; subst h0; exact this
        · exact this
    simp [run_convert_bytes_back w S T e a c bl hs he hT hc]
/-- An empty literal of a slice. -/
theorem WL.build0 {e sz by_ : Nat} (hS : ST w0 M w hp) (hT : slT P T = some (e, sz, by_)) (hd : Nat.blt d n.tmps = true)
    (K : ∀ b w', w0.heap.size ≤ b → ST w0 M w' (.row (.slice (some ⟨b, 0, none⟩) 0 0) e sz [] :: hp) → WL P n ops Q rest ((d, .slice (some ⟨b, 0, none⟩) 0 0) :: l) w') :
    WL P n ops Q (⟨some d, .buildSlice T 0 #[], ty, pos, af, none⟩ :: rest) l w := by
  refine WL.wv (fun ρ hρ => ?_) hd (K w.heap.size (w.alloc (.cells #[] e)) hS.fr.size ?_)
  · unfold slT at hT
    cases hu : P.underlying T with
    | none => simp [hu] at hT
    | some u =>
    cases u <;> simp [hu] at hT
    obtain ⟨i, hi, rfl, rfl, rfl⟩ := hT
    simp [execOp, Instr.buildSlice, run_underlying hu, sizeOf, typeInfo, hi, Instr.fill, newRow]
    have e0 : ∀ (f : Nat → Value), Array.map f (Array.range 0) = #[] := fun f => by apply Array.ext'; simp
    rw [e0]
  · exact hS.add (.alloc w _) (Bk.toRw (Bk.new w e []) (by simp) (by simp [maxLen])) (fun b hb => by simp [Ent.block, Value.ownBlock] at hb; omega)
/-- Arrays of bytes, compared. -/
theorem run_eqItems8 {e : TypeId} (he : P.underlying e = some (.int .u8)) (a b : List UInt8) (hab : a.length = b.length) (D : Nat) : ∀ m s, s + m = a.length →
    (Op.eqItems (D + 1) e 1 (bs8 a).toArray (bs8 b).toArray (List.range' s m)).run P w = .ok (decide (a.drop s = b.drop s)) w := by
  intro m
  induction m with
  | zero =>
    intro s hs
    rw [List.drop_eq_nil_of_le (by omega), List.drop_eq_nil_of_le (by omega)]
    simp [Op.eqItems]
  | succ m ih =>
    intro s hs
    have ha : s < a.length := by omega
    have hb : s < b.length := by omega
    have p1 : (part e (bs8 a).toArray (s * 1)).run P w = .ok (b8 a[s]) w := by
      have : (bs8 a).toArray[s * 1]? = some (b8 a[s]) := by simp [bs8, ha]
      simp only [List.getElem?_toArray, Nat.mul_one] at this
      simp [part, isAgg, run_underlying he, this]
    have p2 : (part e (bs8 b).toArray (s * 1)).run P w = .ok (b8 b[s]) w := by
      have : (bs8 b).toArray[s * 1]? = some (b8 b[s]) := by simp [bs8, hb]
      simp only [List.getElem?_toArray, Nat.mul_one] at this
      simp [part, isAgg, run_underlying he, this]
    have p3 : (Op.equalIn (D + 1) e (b8 a[s]) (b8 b[s])).run P w = .ok (decide (a[s] = b[s])) w := by
      have : ((a[s].toNat : Int) == (b[s].toNat : Int)) = decide (a[s] = b[s]) := by
        by_cases h : a[s] = b[s]
        · simp [h]
        · have h' : ¬ ((a[s].toNat : Int) = (b[s].toNat : Int)) := fun h2 => h (UInt8.toNat_inj.1 (by omega))
          simp [h, h']
      simp [Op.equalIn, run_underlying he, b8, this]
    rw [List.range'_succ]
    simp only [Op.eqItems, Sem.run_bind, p1, p2, p3, Result.andThen_ok]
    rw [List.drop_eq_getElem_cons ha, List.drop_eq_getElem_cons hb]
    by_cases h : a[s] = b[s]
    · rw [if_neg (by simp [h]), ih (s + 1) (by omega)]
      congr 1
      apply decide_eq_decide.2
      rw [h]
      exact ⟨fun q => by rw [q], fun q => (List.cons.inj q).2⟩
    · rw [if_pos (by simp [h]), Sem.run_pure]
      congr 1
      exact (decide_eq_false (fun q => h (List.cons.inj q).1)).symm
theorem pv_eqlA8 {e N : TypeId} {a b : List UInt8} (hT : P.underlying T = some (.array N e)) (he : P.underlying e = some (.int .u8)) (hc : P.cellsOf e = 1) (hg : P.eqGuardType P.depth T = false) (hx : ev l x = some (.agg (bs8 a).toArray)) (hy : ev l y = some (.agg (bs8 b).toArray)) (ha : a.length = N) (hb : b.length = N) :
    PV P l ⟨some d, .binOp .eql T x y U, ty, pos, af, none⟩ (.bool (decide (a = b))) := ⟨rfl, fun ρ hρ w => by
  obtain ⟨i, hi⟩ := info_of_underlying he
  have h := run_equalIn_array w 9999 (bs8 a).toArray (bs8 b).toArray hT hi
  rw [hc, List.range_eq_range', run_eqItems8 (w := w) he a b (by omega) 9998 N 0 (by omega)] at h
  simp only [execOp, hρ _ _ hx, hρ _ _ hy, eqGuard, binOp, run_eq]
  simp [hg, h]⟩
theorem pv_neqA8 {e N : TypeId} {a b : List UInt8} (hT : P.underlying T = some (.array N e)) (he : P.underlying e = some (.int .u8)) (hc : P.cellsOf e = 1) (hg : P.eqGuardType P.depth T = false) (hx : ev l x = some (.agg (bs8 a).toArray)) (hy : ev l y = some (.agg (bs8 b).toArray)) (ha : a.length = N) (hb : b.length = N) :
    PV P l ⟨some d, .binOp .neq T x y U, ty, pos, af, none⟩ (.bool !(decide (a = b))) := ⟨rfl, fun ρ hρ w => by
  obtain ⟨i, hi⟩ := info_of_underlying he
  have h := run_equalIn_array w 9999 (bs8 a).toArray (bs8 b).toArray hT hi
  rw [hc, List.range_eq_range', run_eqItems8 (w := w) he a b (by omega) 9998 N 0 (by omega)] at h
  simp only [execOp, hρ _ _ hx, hρ _ _ hy, eqGuard, binOp, run_eq]
  simp [hg, h]⟩
end
end Go.Eng
