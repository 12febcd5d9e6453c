/- The engine: rules by which a run of a function is read off, part E. -/
import Derived.Test.YtjcebkhhgdgohaaEngD
namespace Go.Eng
open Go Go.RowKit

def oneT (P : Program) (T : TypeId) : Bool := match P.underlying T with
  | some (.struct _) | some (.array _ _) | none => false
  | some _ => true
def aggT (P : Program) (T : TypeId) : Option Nat := match P.underlying T with
  | some (.struct _) | some (.array _ _) => (P.info? T).map (·.size)
  | _ => none
def sizeT (P : Program) (T : TypeId) : Option Nat := (P.info? T).map (·.size)
def zeroT (P : Program) (T : TypeId) : Option (List Value) := (P.info? T).bind fun i => i.zero.map fun z => z.cells.toList
def slT (P : Program) (T : TypeId) : Option (TypeId × Nat × Nat) := match P.underlying T with
  | some (.slice e) => (P.info? e).map fun i => (e, i.size, i.bytes)
  | _ => none
def fldT (P : Program) (S : TypeId) (f : Nat) : Option Nat := match P.underlying S with
  | some (.struct fs) => (fs[f]?).bind fun x => (P.info? x.type).bind fun i => if i.size = 0 then none else some x.offset
  | _ => none
def arrT (P : Program) (T : TypeId) : Option (Nat × Nat) := match P.underlying T with
  | some (.array n e) => (P.info? e).map fun i => (n, i.size)
  | _ => none
/-- A field of a struct's value: where, how many cells, is it a struct or array itself. -/
def fvT (P : Program) (S : TypeId) (f : Nat) : Option (Nat × Nat × Bool) := match P.underlying S with
  | some (.struct fs) => (fs[f]?).bind fun x => (P.info? x.type).bind fun i => match P.underlying x.type with
    | some (.struct _) | some (.array _ _) => some (x.offset, i.size, true)
    | some _ => some (x.offset, i.size, false)
    | none => none
  | _ => none

theorem add0 (b o n : Nat) : (⟨b, o, none⟩ : Addr).add n = ⟨b, o + n, none⟩ := by unfold Addr.add; split <;> simp_all
theorem getElem?_lt {α : Type} {l : List α} {i : Nat} {v : α} (h : l[i]? = some v) : i < l.length := by
  rcases Nat.lt_or_ge i l.length with h' | h'
  · exact h'
  · rw [List.getElem?_eq_none h'] at h; cases h

section
variable {P : Program} {n : Md} {ops : Array Oper} {Q : QT} {rest : List Oper} {l : Env} {w w0 : World} {M : Nat → Prop} {hp : List Ent} {d : Nat} {ty : TypeId} {pos : String} {af : Array Edge} {v : Value} {T U : TypeId} {x y z : Operand}

-- loads
theorem rv_load {a : Addr} (hT : oneT P T = true) (hx : ev l x = some (.pointer (some a))) (hc : w.cell? a = some v) : RV P l w ⟨some d, .load T x, ty, pos, af, none⟩ v := ⟨rfl, fun ρ hρ => by
  unfold oneT at hT
  cases hu : P.underlying T with
  | none => simp [hu] at hT
  | some u =>
    have hag : (isAgg T).run P w = .ok false w := by
      cases u <;> simp_all [isAgg, run_underlying hu]
    simp [execOp, hρ _ _ hx, Instr.loadAt, Instr.sureAddr, loadVar, hag, hc]⟩
theorem run_loadAgg {b o : Nat} {cs : List Value} (hT : aggT P T = some cs.length) (hc : ∀ j u, cs[j]? = some u → w.cell? ⟨b, o + j, none⟩ = some u) : (loadVar T ⟨b, o, none⟩).run P w = .ok (.agg cs.toArray) w := by
  unfold aggT at hT
  have hl : (loadCells ⟨b, o, none⟩ cs.length).run P w = .ok cs.toArray w := run_loadCells_list (P := P) w _ cs (fun j u hu => by rw [add0]; exact hc j u hu)
  cases hu : P.underlying T with
  | none => simp [hu] at hT
  | some u =>
    rw [hu] at hT
    have hag : (isAgg T).run P w = .ok true w := by
      cases u <;> simp_all [isAgg, run_underlying hu]
    have hi : ∃ i, P.info? T = some i ∧ i.size = cs.length := by
      cases u <;> simp_all
    obtain ⟨i, hi, hs⟩ := hi
    simp [loadVar, hag, sizeOf, typeInfo, hi, hs, hl]
theorem rv_loadA {b o : Nat} {cs : List Value} (hT : aggT P T = some cs.length) (hx : ev l x = some (.pointer (some ⟨b, o, none⟩))) (hc : ∀ j u, cs[j]? = some u → w.cell? ⟨b, o + j, none⟩ = some u) :
    RV P l w ⟨some d, .load T x, ty, pos, af, none⟩ (.agg cs.toArray) := ⟨rfl, fun ρ hρ => by
  simp [execOp, hρ _ _ hx, Instr.loadAt, Instr.sureAddr, run_loadAgg hT hc]⟩
theorem rv_load_blk {k b i : Nat} {t : TypeId} {cs : List Value} (hS : ST w0 M w hp) (hT : oneT P T = true) (hx : ev l x = some (.pointer (some ⟨b, i, none⟩))) (hk : hp[k]? = some (.blk b t cs)) (hv : cs[i]? = some v) :
    RV P l w ⟨some d, .load T x, ty, pos, af, none⟩ v := rv_load hT hx (hS.cell hk hv)
/-- A whole block that is loaded. -/
theorem rv_load_all {k b : Nat} {t : TypeId} {cs : List Value} (hS : ST w0 M w hp) (hx : ev l x = some (.pointer (some ⟨b, 0, none⟩))) (hk : hp[k]? = some (.blk b t cs)) (hT : aggT P T = some cs.length) :
    RV P l w ⟨some d, .load T x, ty, pos, af, none⟩ (.agg cs.toArray) := rv_loadA hT hx (fun j u hu => by rw [Nat.zero_add]; exact hS.cell hk hu)
/-- A part of a block that is loaded. -/
theorem rv_load_part {k b i m : Nat} {t : TypeId} {cs : List Value} (hS : ST w0 M w hp) (hx : ev l x = some (.pointer (some ⟨b, i, none⟩))) (hk : hp[k]? = some (.blk b t cs)) (hT : aggT P T = some m) (hm : i + m ≤ cs.length) :
    RV P l w ⟨some d, .load T x, ty, pos, af, none⟩ (.agg ((cs.drop i).take m).toArray) := rv_loadA (by simp; rw [hT]; congr 1; omega) hx (fun j u hu => by
  rw [List.getElem?_take] at hu
  split at hu
  · rw [List.getElem?_drop] at hu; exact hS.cell hk hu
  · cases hu)

-- stores
theorem run_storeCells_bk (g o : Nat) (t : TypeId) : ∀ (vs : List Value) (i : Nat) (cs : List Value) (w : World), Bk w g t cs → o + i + vs.length ≤ cs.length → (∀ v ∈ vs, v.oneCell' = true) →
    (storeCells ⟨g, o, none⟩ vs i).run P w = .ok () (w.setRow g (cs.take (o + i) ++ vs ++ cs.drop (o + i + vs.length)).toArray)
  | [], i, cs, w, hg, _, _ => by
    obtain ⟨fz, h1, _⟩ := hg
    simp only [storeCells, List.append_nil, List.length_nil, Nat.add_zero, List.take_append_drop]
    rw [setRow_self w g cs.toArray t fz h1]
    rfl
  | v :: rest, i, cs, w, hg, hl, h1 => by
    have hi : o + i < cs.length := by simp at hl; omega
    have hcell : w.cell? ⟨g, o + i, none⟩ = some cs[o + i] := by rw [hg.cell]; simp [hi]
    have hfro : w.frozen? ⟨g, o + i, none⟩ = false := hg.free hi
    obtain ⟨fz, hh, hz⟩ := hg
    have hst : (store ((⟨g, o, none⟩ : Addr).add i) v).run P w = .ok () (w.setRow g (cs.set (o + i) v).toArray) := by
      rw [add0, run_store P w _ v _ (h1 v (by simp)), hcell]
      have := setCell_eq_setRow w g (o + i) cs.toArray t fz v hh
      simp [hfro, this]
    have hg' : Bk (w.setRow g (cs.set (o + i) v).toArray) g t (cs.set (o + i) v) := Bk.set ⟨fz, hh, hz⟩ (by simp)
    have ih := run_storeCells_bk g o t rest (i + 1) (cs.set (o + i) v) _ hg' (by simp at hl ⊢; omega) (fun x hx => h1 x (by simp [hx]))
    simp only [storeCells, Sem.run_bind, hst, Result.andThen_ok, ih, setRow_setRow]
    congr 3
    have e := list_seg_step cs (o + i) v rest (by simp at hl ⊢; omega)
    simpa [Nat.add_assoc] using e

theorem ST.setRow {k b : Nat} {t : TypeId} {cs cs' : List Value} (hS : ST w0 M w hp) (hk : hp[k]? = some (.blk b t cs)) (hl : cs'.length = cs.length) : ST w0 M (w.setRow b cs'.toArray) (hp.set k (.blk b t cs')) :=
  hS.upd hk (Fr.setRow w b _ rfl) (Bk.set (hS.at_ hk) hl) (fun _ h => .inl h)

theorem run_storeVar {k b i : Nat} {t : TypeId} {cs vs : List Value} (hS : ST w0 M w hp) (hk : hp[k]? = some (.blk b t cs)) (hT : sizeT P T = some vs.length) (hv : v.cells = vs.toArray) (h1 : ∀ u ∈ vs, u.oneCell' = true) (hi : i + vs.length ≤ cs.length) :
    (storeVar T ⟨b, i, none⟩ v).run P w = .ok () (w.setRow b (cs.take i ++ vs ++ cs.drop (i + vs.length)).toArray) := by
  unfold sizeT at hT
  obtain ⟨j, hj, hs⟩ := Option.map_eq_some_iff.1 hT
  have := run_storeCells_bk (P := P) b i t vs 0 cs w (hS.at_ hk) (by simpa using hi) h1
  simp only [Nat.add_zero] at this
  simp [storeVar, hv, sizeOf, typeInfo, hj, hs, this]

/-- A store of one cell. -/
theorem WL.store {k b i : Nat} {t : TypeId} {cs : List Value} (hS : ST w0 M w hp) (hT : sizeT P T = some 1) (hx : ev l x = some (.pointer (some ⟨b, i, none⟩))) (hy : ev l y = some v) (hk : hp[k]? = some (.blk b t cs)) (hv : v.oneCell' = true) (hi : i < cs.length)
    (K : ∀ w', ST w0 M w' (hp.set k (.blk b t (cs.set i v))) → WL P n ops Q rest l w') : WL P n ops Q (⟨none, .store T x y, ty, pos, af, none⟩ :: rest) l w := by
  have hcells : v.cells = [v].toArray := by cases v <;> simp_all [Value.cells, Value.oneCell']
  have h := run_storeVar (P := P) (T := T) (i := i) (vs := [v]) hS hk hT hcells (by simpa using hv) (by simp; omega)
  have e : cs.take i ++ [v] ++ cs.drop (i + [v].length) = cs.set i v := by
    rw [List.set_eq_take_append_cons_drop, if_pos hi]; simp
  rw [e] at h
  refine WL.ws (w' := w.setRow b (cs.set i v).toArray) (fun ρ hρ => ?_) (K _ (hS.setRow hk (by simp)))
  simp [execOp, hρ _ _ hx, hρ _ _ hy, Instr.storeAt, Instr.sureAddr, h]
/-- A store of a struct's or an array's value. -/
theorem WL.storeA {k b i : Nat} {t : TypeId} {cs vs : List Value} (hS : ST w0 M w hp) (hT : sizeT P T = some vs.length) (hx : ev l x = some (.pointer (some ⟨b, i, none⟩))) (hy : ev l y = some (.agg vs.toArray)) (hk : hp[k]? = some (.blk b t cs)) (hv : ∀ u ∈ vs, u.oneCell' = true) (hi : i + vs.length ≤ cs.length)
    (K : ∀ w', ST w0 M w' (hp.set k (.blk b t (cs.take i ++ vs ++ cs.drop (i + vs.length)))) → WL P n ops Q rest l w') : WL P n ops Q (⟨none, .store T x y, ty, pos, af, none⟩ :: rest) l w := by
  have h := run_storeVar (P := P) (T := T) (i := i) (v := .agg vs.toArray) hS hk hT rfl hv hi
  refine WL.ws (fun ρ hρ => ?_) (K _ (hS.setRow hk (by simp; omega)))
  simp [execOp, hρ _ _ hx, hρ _ _ hy, Instr.storeAt, Instr.sureAddr, h]
/-- A store of a whole block. -/
theorem WL.storeAll {k b : Nat} {t : TypeId} {cs vs : List Value} (hS : ST w0 M w hp) (hT : sizeT P T = some vs.length) (hx : ev l x = some (.pointer (some ⟨b, 0, none⟩))) (hy : ev l y = some (.agg vs.toArray)) (hk : hp[k]? = some (.blk b t cs)) (hv : ∀ u ∈ vs, u.oneCell' = true) (hi : cs.length = vs.length)
    (K : ∀ w', ST w0 M w' (hp.set k (.blk b t vs)) → WL P n ops Q rest l w') : WL P n ops Q (⟨none, .store T x y, ty, pos, af, none⟩ :: rest) l w :=
  WL.storeA hS hT hx hy hk hv (by omega) (by simpa [← hi] using K)

-- new blocks
theorem WL.alloc {zs : List Value} (hS : ST w0 M w hp) (hT : zeroT P T = some zs) (hd : Nat.blt d n.tmps = true)
    (K : ∀ b w', w0.heap.size ≤ b → ST w0 M w' (.blk b T zs :: hp) → WL P n ops Q rest ((d, .pointer (some ⟨b, 0, none⟩)) :: l) w') : WL P n ops Q (⟨some d, .alloc T, ty, pos, af, none⟩ :: rest) l w := by
  unfold zeroT at hT
  obtain ⟨i, hi, hz⟩ := Option.bind_eq_some_iff.1 hT
  obtain ⟨z, hz', rfl⟩ := Option.map_eq_some_iff.1 hz
  refine WL.wv (w' := w.alloc (.cells z.cells.toList.toArray T)) (fun ρ hρ => ?_) hd (K _ _ hS.fr.size (Bk.sn hS T _))
  simp [execOp, Instr.alloc, zeroValue, typeInfo, hi, hz', newVar, newRow]
theorem WL.box {vs : List Value} (hS : ST w0 M w hp) (hx : ev l x = some v) (hv : v.cells = vs.toArray) (hd : Nat.blt d n.tmps = true)
    (K : ∀ b w', w0.heap.size ≤ b → ST w0 M w' (.blk b T vs :: hp) → WL P n ops Q rest ((d, .pointer (some ⟨b, 0, none⟩)) :: l) w') : WL P n ops Q (⟨some d, .box T x, ty, pos, af, none⟩ :: rest) l w := by
  refine WL.wv (w' := w.alloc (.cells vs.toArray T)) (fun ρ hρ => ?_) hd (K _ _ hS.fr.size (Bk.sn hS T _))
  simp [execOp, Instr.box, hρ _ _ hx, hv, newVar, newRow]
end
end Go.Eng
