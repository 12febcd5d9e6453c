/- The engine: rules by which a run of a function is read off, part H. -/
import Derived.Test.YtjcebkhhgdgohaaEngG
import Derived.Laws.IdiomStrings
namespace Go.Eng
open Go Go.RowKit
section
variable {P : Program} {n : Md} {ops : Array Oper} {Q : QT} {rest : List Oper} {l : Env} {w w0 : World} {M : Nat → Prop} {hp : List Ent} {d : Nat} {ty : TypeId} {pos : String} {af : Array Edge} {v : Value} {T U : TypeId} {x y z : Operand}

theorem WL.append {k e sz by_ N : Nat} {u : Value} {xs ys : List Value} (hS : ST w0 M w hp) (hT : slT P T = some (e, sz, by_)) (hz : (zeroT P e).map List.length = some sz) (hsz : 0 < sz)
    (hx : ev l x = some v) (hk : hp[k]? = some (.row v e sz xs)) (hy : ev l y = some u) (hr : Rs w u sz ys) (h1 : ∀ u ∈ ys, u.oneCell' = true) (hN : xs.length + ys.length ≤ N * sz) (hb : N * by_ ≤ 140737488355328) (hN2 : N ≤ maxLen) (hd : Nat.blt d n.tmps = true)
    (K : ∀ v' w', Fr (fun b => v.ownBlock = some b) w w' → ST w0 M w' (hp.set k (.row v' e sz (xs ++ ys))) → WL P n ops Q rest ((d, v') :: l) w') :
    WL P n ops Q (⟨some d, .call { callee := .builtin .append, args := #[x, y], argTypes := #[T, T] }, ty, pos, af, none⟩ :: rest) l w := by
  obtain ⟨v', w', hrun, hf, hrw, hbl, hkp⟩ := run_append (P := P) (ty := ty) hT hz hsz (hS.at_ hk) hr h1 hN hb hN2
  refine WL.wv (fun ρ hρ => ?_) hd (K v' w' hf (hS.upd hk hf hrw hbl))
  simp [execOp, resolve, invoke, builtin, hρ _ _ hx, hρ _ _ hy, hrun]

theorem WL.appendK {k e sz by_ N : Nat} {u : Value} {xs ys : List Value} (hS : ST w0 M w hp) (hT : slT P T = some (e, sz, by_)) (hz : (zeroT P e).map List.length = some sz) (hsz : 0 < sz)
    (hx : ev l x = some v) (hk : hp[k]? = some (.row v e sz xs)) (hy : ev l y = some u) (hr : Rs w u sz ys) (h1 : ∀ u ∈ ys, u.oneCell' = true) (hN : xs.length + ys.length ≤ N * sz) (hb : N * by_ ≤ 140737488355328) (hN2 : N ≤ maxLen) (hd : Nat.blt d n.tmps = true)
    (K : ∀ v' w', Fr (fun b => v.ownBlock = some b) w w' → ST w0 M w' (hp.set k (.row v' e sz (xs ++ ys))) → Rs w' v sz xs → WL P n ops Q rest ((d, v') :: l) w') :
    WL P n ops Q (⟨some d, .call { callee := .builtin .append, args := #[x, y], argTypes := #[T, T] }, ty, pos, af, none⟩ :: rest) l w := by
  obtain ⟨v', w', hrun, hf, hrw, hbl, hkp⟩ := run_append (P := P) (ty := ty) hT hz hsz (hS.at_ hk) hr h1 hN hb hN2
  refine WL.wv (fun ρ hρ => ?_) hd (K v' w' hf (hS.upd hk hf hrw hbl) hkp)
  simp [execOp, resolve, invoke, builtin, hρ _ _ hx, hρ _ _ hy, hrun]

/-- The make of a slice. -/
theorem madeCells_list (zs : List Value) (m : Nat) : (madeCells zs.toArray (m * zs.length)).toList = (List.replicate m zs).flatten := by
  induction m with
  | zero => simp [madeCells]
  | succ m ih =>
    rw [List.replicate_succ', List.flatten_append, ← ih]
    unfold madeCells
    simp only [Array.toList_map, Array.toList_range, List.size_toArray, Nat.succ_mul]
    rw [List.range_add, List.map_append]
    congr 1
    apply List.ext_getElem
    · simp
    · intro i h1 h2
      simp at h1 h2
      simp [Nat.mod_eq_of_lt h1, h1]
theorem run_mk {e sz by_ a c : Nat} {ka kc : IntKind} {zs : List Value} (hT : slT P T = some (e, sz, by_)) (hz : zeroT P e = some zs) (hzl : zs.length = sz) (hac : a ≤ c) (hb : by_ * c ≤ 281474976710656) (h63 : c ≤ maxLen) :
    (Instr.makeSlice T (.int ka (a : Int)) (.int kc (c : Int))).run P w = .ok (.slice (some ⟨w.heap.size, 0, none⟩) a c) (w.alloc (.cells ((List.replicate c zs).flatten).toArray e)) := by
  unfold slT at hT
  cases hu : P.underlying T with
  | none => simp [hu] at hT
  | some u =>
  cases u <;> simp [hu] at hT
  obtain ⟨i, hi, rfl, rfl, rfl⟩ := hT
  unfold zeroT at hz
  rw [hi] at hz
  obtain ⟨z, hz1, rfl⟩ := Option.map_eq_some_iff.1 (show i.zero.map _ = some zs from hz)
  have := run_make (P := P) w T _ i z hu hi hz1 ka kc (a : Int) (c : Int) (by omega) (by omega) (by
    have h : ((i.bytes * c : Nat) : Int) ≤ 281474976710656 := by omega
    rwa [Int.natCast_mul] at h) (by simp only [maxLen] at h63; omega)
  rw [this]
  have e1 : madeCells z.cells ((c : Int).toNat * i.size) = ((List.replicate c z.cells.toList).flatten).toArray := by
    apply Array.ext'
    rw [← madeCells_list z.cells.toList c]
    simp [← hzl]
  rw [e1]; simp
theorem WL.make {e sz by_ c : Nat} {zs : List Value} (hS : ST w0 M w hp) (hT : slT P T = some (e, sz, by_)) (hz : zeroT P e = some zs) (hzl : zs.length = sz) {kx ky : IntKind} (hx : ev l x = some (.int kx (c : Int))) (hy : ev l y = some (.int ky (c : Int)))
    (hb : by_ * c ≤ 281474976710656) (h63 : c ≤ maxLen) (hd : Nat.blt d n.tmps = true)
    (K : ∀ b w', w0.heap.size ≤ b → ST w0 M w' (.row (.slice (some ⟨b, 0, none⟩) c c) e sz ((List.replicate c zs).flatten) :: hp) → WL P n ops Q rest ((d, .slice (some ⟨b, 0, none⟩) c c) :: l) w') :
    WL P n ops Q (⟨some d, .makeSlice T x y, ty, pos, af, none⟩ :: rest) l w := by
  refine WL.wv (fun ρ hρ => ?_) hd (K w.heap.size (w.alloc (.cells ((List.replicate c zs).flatten).toArray e)) hS.fr.size ?_)
  · simp [execOp, hρ _ _ hx, hρ _ _ hy, run_mk hT hz hzl (Nat.le_refl c) hb h63]
  · refine hS.add (.alloc w _) (.inr ⟨w.heap.size, c, c, [], rfl, ?_, ?_, Nat.le_refl _, h63, ?_⟩) (fun b hb => by simp [Ent.block, Value.ownBlock] at hb; omega)
    · rw [List.append_nil]; exact Bk.new w e _
    · simp [hzl]
    · simp [hzl]
/-- A made slice, as a block. -/
theorem WL.makeB {e sz by_ c : Nat} {zs : List Value} (hS : ST w0 M w hp) (hT : slT P T = some (e, sz, by_)) (hz : zeroT P e = some zs) (hzl : zs.length = sz) {kx ky : IntKind} (hx : ev l x = some (.int kx (c : Int))) (hy : ev l y = some (.int ky (c : Int)))
    (hb : by_ * c ≤ 281474976710656) (h63 : c ≤ maxLen) (hd : Nat.blt d n.tmps = true)
    (K : ∀ b w', w0.heap.size ≤ b → ST w0 M w' (.blk b e ((List.replicate c zs).flatten) :: hp) → WL P n ops Q rest ((d, .slice (some ⟨b, 0, none⟩) c c) :: l) w') :
    WL P n ops Q (⟨some d, .makeSlice T x y, ty, pos, af, none⟩ :: rest) l w := by
  refine WL.wv (fun ρ hρ => ?_) hd (K w.heap.size (w.alloc (.cells ((List.replicate c zs).flatten).toArray e)) hS.fr.size (Bk.sn hS e _))
  simp [execOp, hρ _ _ hx, hρ _ _ hy, run_mk hT hz hzl (Nat.le_refl c) hb h63]

/-- A slice's literal: its parts one behind the other. -/
def vals (ρ : Operand → Value) (parts : List (Nat × Operand)) : List (Nat × Value) := parts.map fun (i, x) => (i, ρ x)
def pvs (l : Env) : List (Nat × Operand) → Option (List (Nat × Value))
  | [] => some []
  | (i, x) :: r => match ev l x, pvs l r with
    | some v, some vs => some ((i, v) :: vs)
    | _, _ => none
theorem pvs_map {ρ : Operand → Value} (hρ : Agr l ρ) : ∀ {ps : List (Nat × Operand)} {vs : List (Nat × Value)}, pvs l ps = some vs → ps.map (fun p => (p.1, ρ p.2)) = vs
  | [], vs, hc => by simpa [pvs] using hc
  | (i, x) :: r, vs, hc => by
    simp only [pvs] at hc
    split at hc
    · rename_i v vs' h1 h2
      injection hc with hc; subst hc
      simp [hρ x _ h1, pvs_map hρ h2]
    · cases hc
theorem WL.buildS {e sz by_ m : Nat} {parts : List (Nat × Operand)} {vs : List (Nat × Value)} {zs cells : List Value} (hS : ST w0 M w hp) (hT : slT P T = some (e, sz, by_)) (hz : zeroT P e = some zs) (hvs : pvs l parts = some vs)
    (hm : Nat.ble (m * sz) 16777216 = true) (hf : Instr.fill (fun i => some (i * sz, sz)) ((Array.range (m * sz)).map (zs.toArray[· % zs.toArray.size]!)) vs = some cells.toArray) (hms : m * sz ≠ 0) (hd : Nat.blt d n.tmps = true)
    (K : ∀ b w', w0.heap.size ≤ b → ST w0 M w' (.blk b e cells :: hp) → WL P n ops Q rest ((d, .slice (some ⟨b, 0, none⟩) m m) :: l) w') :
    WL P n ops Q (⟨some d, .buildSlice T m parts.toArray, ty, pos, af, none⟩ :: rest) l w := by
  refine WL.wv (fun ρ hρ => ?_) hd (K w.heap.size (w.alloc (.cells cells.toArray e)) hS.fr.size (Bk.sn hS e _))
  unfold slT at hT
  cases hu : P.underlying T with
  | none => simp [hu] at hT
  | some u =>
  cases u <;> simp [hu] at hT
  obtain ⟨i, hi, rfl, rfl, rfl⟩ := hT
  unfold zeroT at hz
  rw [hi] at hz
  obtain ⟨z, hz1, rfl⟩ := Option.map_eq_some_iff.1 (show i.zero.map _ = some zs from hz)
  have hle := Nat.le_of_ble_eq_true hm
  have hnot : ¬ (16777216 < m * i.size) := by omega
  have hp := pvs_map hρ hvs
  simp only [Array.toArray_toList] at hf
  simp [execOp, Instr.buildSlice, run_underlying hu, sizeOf, typeInfo, hi, hnot, zeroValue, hz1, hp, hf, newRow]
  try (intro h; exact absurd h hms)

theorem foldl_set (off : Nat) : ∀ (vs : List Value) (j : Nat) (pre mid post : List Value), pre.length = off + j → mid.length = vs.length →
    (vs.zipIdx j).foldl (fun (cs : Array Value) (x : Value × Nat) => cs.setIfInBounds (off + x.2) x.1) (pre ++ mid ++ post).toArray = (pre ++ vs ++ post).toArray
  | [], j, pre, mid, post, _, h => by
    have : mid = [] := List.eq_nil_of_length_eq_zero (by simpa using h)
    subst this; simp
  | v :: vs, j, pre, mid, post, hp, h => by
    cases mid with
    | nil => simp at h
    | cons m mid =>
      rw [List.zipIdx_cons, List.foldl_cons]
      have e : (pre ++ m :: mid ++ post).toArray.setIfInBounds (off + j) v = ((pre ++ [v]) ++ mid ++ post).toArray := by
        apply Array.ext'
        rw [Array.toList_setIfInBounds, ← hp]
        simp
      simp only
      rw [e, foldl_set off vs (j + 1) (pre ++ [v]) mid post (by simp; omega) (by simpa using h)]
      simp
theorem fill_all (sz : Nat) : ∀ (vs : List Value) (k : Nat) (pre post : List Value), pre.length = k * sz → post.length = vs.length * sz → (∀ v ∈ vs, v.cells.size = sz) →
    Instr.fill (fun i => some (i * sz, sz)) (pre ++ post).toArray ((List.range' k vs.length).zip vs) = some (pre ++ vs.flatMap (·.cells.toList)).toArray
  | [], k, pre, post, _, h, _ => by
    have : post = [] := List.eq_nil_of_length_eq_zero (by simpa using h)
    subst this; simp [Instr.fill]
  | v :: vs, k, pre, post, hp, h, hv => by
    have hvs : v.cells.size = sz := hv v (by simp)
    simp only [List.length_cons, List.range'_succ, List.zip_cons_cons, Instr.fill]
    simp only [List.length_cons, Nat.succ_mul] at h
    have c1 : ¬ (v.cells.size ≠ sz ∨ k * sz + v.cells.size > (pre ++ post).toArray.size) := by
      simp [hvs, hp]; omega
    rw [if_neg (by simpa using c1)]
    have e2 : v.cells.zipIdx.foldl (fun (cs : Array Value) (x : Value × Nat) => cs.setIfInBounds (k * sz + x.2) x.1) (pre ++ post).toArray = ((pre ++ v.cells.toList) ++ post.drop sz).toArray := by
      rw [← Array.foldl_toList, Array.toList_zipIdx]
      have := foldl_set (k * sz) v.cells.toList 0 pre (post.take sz) (post.drop sz) (by simpa using hp) (by simp [hvs]; omega)
      rw [List.append_assoc, List.take_append_drop] at this
      exact this
    have ih := fill_all sz vs (k + 1) (pre ++ v.cells.toList) (post.drop sz) (by simp [hp, hvs, Nat.succ_mul]) (by simp; omega) (fun x hx => hv x (by simp [hx]))
    rw [e2, ih]
    simp
/-- A slice's literal whose parts are all written out. -/
theorem WL.buildV {e sz by_ : Nat} {parts : List (Nat × Operand)} {vs : List Value} {zs : List Value} (hS : ST w0 M w hp) (hT : slT P T = some (e, sz, by_)) (hz : zeroT P e = some zs) (_hzl : zs.length = sz) (hvs : pvs l parts = some ((List.range' 0 vs.length).zip vs))
    (hm : Nat.ble (vs.length * sz) 16777216 = true) (hms : Nat.blt 0 (vs.length * sz) = true) (hv : ∀ v ∈ vs, v.cells.size = sz) {cells : List Value} (hc : cells = vs.flatMap (·.cells.toList)) (hd : Nat.blt d n.tmps = true)
    (K : ∀ b w', w0.heap.size ≤ b → ST w0 M w' (.blk b e cells :: hp) → WL P n ops Q rest ((d, .slice (some ⟨b, 0, none⟩) vs.length vs.length) :: l) w') :
    WL P n ops Q (⟨some d, .buildSlice T vs.length parts.toArray, ty, pos, af, none⟩ :: rest) l w := by
  have hpos : 0 < vs.length * sz := Nat.le_of_ble_eq_true hms
  have e1 : (Array.range (vs.length * sz)).map (zs.toArray[· % zs.toArray.size]!) = ([] ++ (madeCells zs.toArray (vs.length * sz)).toList).toArray := by
    apply Array.ext'; simp [madeCells]
  refine WL.buildS (cells := cells) hS hT hz hvs hm ?_ (by omega) hd K
  rw [e1, fill_all sz vs 0 [] _ (by simp) (by simp [madeCells]) hv, hc]; rfl

theorem WL.build1 {e by_ : Nat} {x : Operand} {zs : List Value} (hS : ST w0 M w hp) (hT : slT P T = some (e, 1, by_)) (hz : zeroT P e = some zs) (hzl : zs.length = 1) (hx : ev l x = some v) (hv : v.oneCell' = true) (hd : Nat.blt d n.tmps = true)
    (K : ∀ b w', w0.heap.size ≤ b → ST w0 M w' (.blk b e [v] :: hp) → WL P n ops Q rest ((d, .slice (some ⟨b, 0, none⟩) 1 1) :: l) w') :
    WL P n ops Q (⟨some d, .buildSlice T 1 #[(0, x)], ty, pos, af, none⟩ :: rest) l w := by
  have hc : v.cells = #[v] := by cases v <;> simp_all [Value.cells, Value.oneCell']
  exact WL.buildV (vs := [v]) (parts := [(0, x)]) hS hT hz hzl (by simp [pvs, hx]) rfl rfl (by simp [hc]) (cells := [v]) (by simp [hc]) hd K
theorem WL.build1A {e sz by_ : Nat} {x : Operand} {zs vs : List Value} (hS : ST w0 M w hp) (hT : slT P T = some (e, sz, by_)) (hz : zeroT P e = some zs) (hzl : zs.length = sz) (hx : ev l x = some (.agg vs.toArray)) (hv : vs.length = sz) (hs : Nat.ble sz 1000 = true) (h0 : Nat.blt 0 sz = true) (hd : Nat.blt d n.tmps = true)
    (K : ∀ b w', w0.heap.size ≤ b → ST w0 M w' (.blk b e vs :: hp) → WL P n ops Q rest ((d, .slice (some ⟨b, 0, none⟩) 1 1) :: l) w') :
    WL P n ops Q (⟨some d, .buildSlice T 1 #[(0, x)], ty, pos, af, none⟩ :: rest) l w := by
  have h1 := Nat.le_of_ble_eq_true hs
  have h2 : 0 < sz := Nat.le_of_ble_eq_true h0
  exact WL.buildV (vs := [.agg vs.toArray]) (parts := [(0, x)]) hS hT hz hzl (by simp [pvs, hx]) (by simp; omega) (by simpa using h2) (by simp [Value.cells, hv]) (cells := vs) (by simp [Value.cells]) hd K
theorem WL.build2 {e by_ : Nat} {x y : Operand} {v u : Value} {zs : List Value} (hS : ST w0 M w hp) (hT : slT P T = some (e, 1, by_)) (hz : zeroT P e = some zs) (hzl : zs.length = 1) (hx : ev l x = some v) (hy : ev l y = some u) (hv : v.oneCell' = true) (hu : u.oneCell' = true) (hd : Nat.blt d n.tmps = true)
    (K : ∀ b w', w0.heap.size ≤ b → ST w0 M w' (.blk b e [v, u] :: hp) → WL P n ops Q rest ((d, .slice (some ⟨b, 0, none⟩) 2 2) :: l) w') :
    WL P n ops Q (⟨some d, .buildSlice T 2 #[(0, x), (1, y)], ty, pos, af, none⟩ :: rest) l w := by
  have hc : v.cells = #[v] := by cases v <;> simp_all [Value.cells, Value.oneCell']
  have hc2 : u.cells = #[u] := by cases u <;> simp_all [Value.cells, Value.oneCell']
  exact WL.buildV (vs := [v, u]) (parts := [(0, x), (1, y)]) hS hT hz hzl (by simp [pvs, hx, hy]; rfl) rfl rfl (by simp [hc, hc2]) (cells := [v, u]) (by simp [hc, hc2]) hd K
end
end Go.Eng
