/- The engine: rules by which a run of a function is read off, part D. -/
import Derived.Test.YtjcebkhhgdgohaaEngC
namespace Go.Eng
open Go Go.RowKit

/-- From w to w' no block that was there has turned, but those that M lets. -/
structure Fr (M : Nat → Prop) (w w' : World) : Prop where
  os : w'.os = w.os
  tape : w'.tape = w.tape
  output : w'.output = w.output
  size : w.heap.size ≤ w'.heap.size
  block : ∀ k, k < w.heap.size → ¬ M k → w'.heap[k]? = w.heap[k]?
def No : Nat → Prop := fun _ => False
theorem Fr.refl {M : Nat → Prop} (w : World) : Fr M w w := ⟨rfl, rfl, rfl, Nat.le_refl _, fun _ _ _ => rfl⟩
theorem Fr.trans {M N : Nat → Prop} {a b c : World} (h : Fr M a b) (k : Fr N b c) (hN : ∀ i, i < a.heap.size → N i → M i) : Fr M a c :=
  ⟨k.os.trans h.os, k.tape.trans h.tape, k.output.trans h.output, Nat.le_trans h.size k.size, fun i hi hm =>
    (k.block i (Nat.lt_of_lt_of_le hi h.size) (fun hn => hm (hN i hi hn))).trans (h.block i hi hm)⟩
theorem Fr.mono {M N : Nat → Prop} {a b : World} (h : Fr M a b) (hN : ∀ i, i < a.heap.size → M i → N i) : Fr N a b :=
  ⟨h.os, h.tape, h.output, h.size, fun i hi hm => h.block i hi (fun hn => hm (hN i hi hn))⟩
theorem Fr.no {M : Nat → Prop} {a b : World} (h : Fr No a b) : Fr M a b := h.mono fun _ _ h => h.elim
theorem Fr.drew {M : Nat → Prop} (w : World) : Fr M w w.drew := ⟨rfl, rfl, rfl, Nat.le_refl _, fun _ _ _ => rfl⟩
theorem Fr.drewN {M : Nat → Prop} (w : World) (n : Nat) : Fr M w (w.drewN n) := ⟨rfl, rfl, rfl, Nat.le_refl _, fun _ _ _ => rfl⟩
theorem Fr.alloc {M : Nat → Prop} (w : World) (o : Obj) : Fr M w (w.alloc o) := ⟨rfl, rfl, rfl, by simp, fun _ hk _ => heap_alloc_old w o hk⟩
theorem Fr.setRow {M : Nat → Prop} (w : World) (g : Nat) (cs : Array Value) (hM : M g) : Fr M w (w.setRow g cs) := by
  refine ⟨rfl, rfl, rfl, by simp [World.setRow], fun k _ hm => ?_⟩
  have : g ≠ k := fun e => hm (e ▸ hM)
  simp [World.setRow, Array.getElem?_modify, this]
theorem Fr.below {w w' : World} (h : Fr No w w') : Below w.heap.size w w' := ⟨h.os, h.tape, h.output, h.size, fun k hk => h.block k hk (fun h => h)⟩
theorem Fr.ofBelow {w w' : World} (h : Below w.heap.size w w') : Fr No w w' := ⟨h.os, h.tape, h.output, h.size, fun k hk _ => h.block k hk⟩
theorem Fr.cell {M : Nat → Prop} {w w' : World} (h : Fr M w w') {a : Addr} (ha : a.block < w.heap.size) (hm : ¬ M a.block) : w'.cell? a = w.cell? a := World.cell?_of_block (h.block _ ha hm)
theorem Fr.cellS {M : Nat → Prop} {w w' : World} (h : Fr M w w') {a : Addr} {v : Value} (hc : w.cell? a = some v) (hm : ¬ M a.block) : w'.cell? a = some v := (h.cell (World.block_lt_of_cell? w a hc) hm).trans hc

/-- No cell of the row is marked. -/
def fzOk (n : Nat) (fz : Nat × Nat) : Prop := fz = (0, 0) ∨ n ≤ fz.1
theorem fzOk.free {n i : Nat} {fz : Nat × Nat} (h : fzOk n fz) (hi : i < n) : (decide (fz.1 ≤ i) && decide (i < fz.2)) = false := by
  rcases h with rfl | h
  · simp
  · simp; omega

/-- Block b is the cells cs. -/
def Bk (w : World) (b : Nat) (t : TypeId) (cs : List Value) : Prop := ∃ fz, w.heap[b]? = some (.cells cs.toArray t fz) ∧ fzOk cs.length fz
theorem Bk.lt {w : World} {b : Nat} {t : TypeId} {cs : List Value} (h : Bk w b t cs) : b < w.heap.size := by
  obtain ⟨fz, h, _⟩ := h
  exact (Array.getElem?_eq_some_iff.1 h).1
theorem Bk.cell {w : World} {b : Nat} {t : TypeId} {cs : List Value} (h : Bk w b t cs) (i : Nat) : w.cell? ⟨b, i, none⟩ = cs[i]? := by
  obtain ⟨fz, h, _⟩ := h
  rw [cell_of_row w b i _ t fz h]; simp
theorem Bk.free {w : World} {b : Nat} {t : TypeId} {cs : List Value} (h : Bk w b t cs) {i : Nat} (hi : i < cs.length) : w.frozen? ⟨b, i, none⟩ = false := by
  obtain ⟨fz, h, hf⟩ := h
  have := hf.free hi
  unfold World.frozen?
  rw [h]; exact this
theorem Bk.fr {M : Nat → Prop} {w w' : World} {b : Nat} {t : TypeId} {cs : List Value} (h : Bk w b t cs) (hf : Fr M w w') (hm : ¬ M b) : Bk w' b t cs := by
  obtain ⟨fz, h1, h2⟩ := h
  exact ⟨fz, (hf.block b (Array.getElem?_eq_some_iff.1 h1).1 hm).trans h1, h2⟩
theorem Bk.set {w : World} {b : Nat} {t : TypeId} {cs cs' : List Value} (h : Bk w b t cs) (hl : cs'.length = cs.length) : Bk (w.setRow b cs'.toArray) b t cs' := by
  obtain ⟨fz, h1, h2⟩ := h
  exact ⟨fz, setRow_heap w b _ _ t fz h1, by rw [hl]; exact h2⟩
theorem Bk.new (w : World) (t : TypeId) (cs : List Value) : Bk (w.alloc (.cells cs.toArray t)) w.heap.size t cs := ⟨(0, 0), heap_alloc_new w _, .inl rfl⟩

/-- A slice value that owns its row: nil, or from the head of a block that holds the elements and then spare cells. -/
def Rw (w : World) (v : Value) (t : TypeId) (sz : Nat) (xs : List Value) : Prop :=
  (v = .slice none 0 0 ∧ xs = []) ∨
  ∃ b n cap sp, v = .slice (some ⟨b, 0, none⟩) n cap ∧ Bk w b t (xs ++ sp) ∧ xs.length = n * sz ∧ n ≤ cap ∧ cap ≤ maxLen ∧ (xs ++ sp).length = cap * sz

inductive Ent
  | blk (b : Nat) (t : TypeId) (cs : List Value)
  | row (v : Value) (t : TypeId) (sz : Nat) (xs : List Value)
  | ro (v : Value) (sz : Nat) (xs : List Value)
  | obj (b : Nat) (o : Obj)
/-- A slice that is read: its elements' cells, whatever memory they lie in. -/
def Rs (w : World) (v : Value) (sz : Nat) (xs : List Value) : Prop :=
  ∃ A m c, v = .slice A m c ∧ m ≤ c ∧ c ≤ maxLen ∧ xs.length = m * sz ∧ (xs = [] ∨ ∃ b o, A = some ⟨b, o, none⟩ ∧ ∀ j u, xs[j]? = some u → w.cell? ⟨b, o + j, none⟩ = some u)
theorem Rs.fr {M : Nat → Prop} {w w' : World} {v : Value} {sz : Nat} {xs : List Value} (h : Rs w v sz xs) (hf : Fr M w w') (hm : ∀ b, v.ownBlock = some b → ¬ M b) : Rs w' v sz xs := by
  obtain ⟨A, m, c, rfl, h1, h2, h3, h4⟩ := h
  refine ⟨A, m, c, rfl, h1, h2, h3, ?_⟩
  rcases h4 with h4 | ⟨b, o, rfl, h4⟩
  · exact .inl h4
  · exact .inr ⟨b, o, rfl, fun j u hu => hf.cellS (h4 j u hu) (hm b rfl)⟩
theorem Rs.no {w w' : World} {v : Value} {sz : Nat} {xs : List Value} (h : Rs w v sz xs) (hf : Fr No w w') : Rs w' v sz xs := h.fr hf (fun _ _ h => h)
def Ent.ok (w : World) : Ent → Prop
  | .blk b t cs => Bk w b t cs
  | .row v t sz xs => Rw w v t sz xs
  | .ro v sz xs => Rs w v sz xs ∧ ∀ b, v.ownBlock = some b → b < w.heap.size
  | .obj b o => w.heap[b]? = some o
def Ent.block : Ent → Option Nat
  | .blk b _ _ => some b
  | .row v _ _ _ => v.ownBlock
  | .ro v _ _ => v.ownBlock
  | .obj b _ => some b

theorem Rw.lt {w : World} {v : Value} {t : TypeId} {sz : Nat} {xs : List Value} (h : Rw w v t sz xs) {b : Nat} (hb : v.ownBlock = some b) : b < w.heap.size := by
  rcases h with ⟨rfl, _⟩ | ⟨g, n, cap, sp, rfl, hk, _⟩
  · simp [Value.ownBlock] at hb
  · simp [Value.ownBlock] at hb; subst hb; exact hk.lt
theorem Rw.fr {M : Nat → Prop} {w w' : World} {v : Value} {t : TypeId} {sz : Nat} {xs : List Value} (h : Rw w v t sz xs) (hf : Fr M w w') (hm : ∀ b, v.ownBlock = some b → ¬ M b) : Rw w' v t sz xs := by
  rcases h with ⟨rfl, h⟩ | ⟨g, n, cap, sp, rfl, hk, h⟩
  · exact .inl ⟨rfl, h⟩
  · exact .inr ⟨g, n, cap, sp, rfl, hk.fr hf (hm g rfl), h⟩
theorem Ent.lt {w : World} {e : Ent} (h : e.ok w) {b : Nat} (hb : e.block = some b) : b < w.heap.size := by
  cases e with
  | blk b' t cs => simp [Ent.block] at hb; subst hb; exact Bk.lt h
  | row v t sz xs => exact Rw.lt h hb
  | ro v sz xs => exact h.2 b hb
  | obj b' o => simp [Ent.block] at hb; subst hb; exact (Array.getElem?_eq_some_iff.1 h).1
theorem Ent.fr {M : Nat → Prop} {w w' : World} {e : Ent} (h : e.ok w) (hf : Fr M w w') (hm : ∀ b, e.block = some b → ¬ M b) : e.ok w' := by
  cases e with
  | blk b' t cs => exact Bk.fr h hf (hm b' rfl)
  | row v t sz xs => exact Rw.fr h hf hm
  | ro v sz xs => exact ⟨Rs.fr h.1 hf hm, fun b hb => Nat.lt_of_lt_of_le (h.2 b hb) hf.size⟩
  | obj b o => exact (hf.block b (Array.getElem?_eq_some_iff.1 h).1 (hm b rfl)).trans h

/-- The state of memory on the way: what the call may write, what it has of its own. -/
structure ST (w0 : World) (M : Nat → Prop) (w : World) (hp : List Ent) : Prop where
  fr : Fr M w0 w
  ok : ∀ e ∈ hp, e.ok w
  own : ∀ e ∈ hp, ∀ b, e.block = some b → w0.heap.size ≤ b ∨ M b
  sep : hp.Pairwise (fun e f => ∀ b, e.block = some b → f.block ≠ some b)

theorem ST.start (w : World) (M : Nat → Prop) : ST w M w [] := ⟨.refl _, by simp, by simp, .nil⟩
theorem ST.no {w0 w : World} {M : Nat → Prop} {hp : List Ent} (h : ST w0 M w hp) {w' : World} (hf : Fr No w w') : ST w0 M w' hp :=
  ⟨h.fr.trans hf (fun _ _ h => h.elim), fun e he => Ent.fr (h.ok e he) hf (fun _ _ h => h), h.own, h.sep⟩
theorem ST.drop {w0 w : World} {M : Nat → Prop} {e : Ent} {hp : List Ent} (h : ST w0 M w (e :: hp)) : ST w0 M w hp :=
  ⟨h.fr, fun e he => h.ok e (by simp [he]), fun e he => h.own e (by simp [he]), (List.pairwise_cons.1 h.sep).2⟩
theorem ST.add {w0 w w' : World} {M : Nat → Prop} {hp : List Ent} {e : Ent} (h : ST w0 M w hp) (hf : Fr No w w') (he : e.ok w') (hb : ∀ b, e.block = some b → w.heap.size ≤ b) : ST w0 M w' (e :: hp) := by
  have h' := h.no hf
  refine ⟨h'.fr, ?_, ?_, ?_⟩
  · intro x hx; rcases List.mem_cons.1 hx with rfl | hx
    · exact he
    · exact h'.ok x hx
  · intro x hx b hxb; rcases List.mem_cons.1 hx with rfl | hx
    · exact .inl (Nat.le_trans h.fr.size (hb b hxb))
    · exact h'.own x hx b hxb
  · refine List.pairwise_cons.2 ⟨fun f hf b hb1 hb2 => ?_, h'.sep⟩
    have h1 := hb b hb1
    have h2 := Ent.lt (h.ok f hf) hb2
    omega
theorem Bk.sn {w0 w : World} {M : Nat → Prop} {hp : List Ent} (h : ST w0 M w hp) (t : TypeId) (cs : List Value) : ST w0 M (w.alloc (.cells cs.toArray t)) (.blk w.heap.size t cs :: hp) :=
  h.add (.alloc w _) (Bk.new w t cs) (fun b hb => by simp [Ent.block] at hb; omega)
theorem ST.at_ {w0 w : World} {M : Nat → Prop} {hp : List Ent} (h : ST w0 M w hp) {k : Nat} {e : Ent} (hk : hp[k]? = some e) : e.ok w := h.ok e (List.mem_of_getElem? hk)
theorem ST.upd {w0 w w' : World} {M : Nat → Prop} {hp : List Ent} {k : Nat} {e e' : Ent} (h : ST w0 M w hp) (hk : hp[k]? = some e) (hf : Fr (fun b => e.block = some b) w w') (he : e'.ok w')
    (hb : ∀ b, e'.block = some b → e.block = some b ∨ w.heap.size ≤ b) : ST w0 M w' (hp.set k e') := by
  have hkl : k < hp.length := by
    rcases Nat.lt_or_ge k hp.length with h | h
    · exact h
    · rw [List.getElem?_eq_none h] at hk; cases hk
  have hke : hp[k] = e := by rw [List.getElem?_eq_getElem hkl] at hk; injection hk
  have hmem : e ∈ hp := hke ▸ List.getElem_mem hkl
  have hpw := List.pairwise_iff_getElem.1 h.sep
  have apart : ∀ (j : Nat) (hj : j < hp.length), j ≠ k → ∀ b, hp[j].block = some b → e.block ≠ some b := by
    intro j hj hjk b hb1 hb2
    rcases Nat.lt_or_gt_of_ne hjk with hlt | hgt
    · exact hpw j k hj hkl hlt b hb1 (by rw [hke]; exact hb2)
    · exact hpw k j hkl hj hgt b (by rw [hke]; exact hb2) hb1
  refine ⟨h.fr.trans hf (fun i hi hn => ?_), ?_, ?_, ?_⟩
  · rcases h.own e hmem i hn with h1 | h1
    · omega
    · exact h1
  · intro x hx
    obtain ⟨j, hj, rfl⟩ := List.getElem_of_mem hx
    have hj' : j < hp.length := by simpa using hj
    rw [List.getElem_set]
    split
    · exact he
    · rename_i hne
      exact Ent.fr (h.ok _ (List.getElem_mem hj')) hf (fun b hb => apart j hj' (fun e => hne e.symm) b hb)
  · intro x hx b hxb
    obtain ⟨j, hj, rfl⟩ := List.getElem_of_mem hx
    have hj' : j < hp.length := by simpa using hj
    rw [List.getElem_set] at hxb
    split at hxb
    · rcases hb b hxb with h1 | h1
      · exact h.own e hmem b h1
      · exact .inl (Nat.le_trans h.fr.size h1)
    · exact h.own _ (List.getElem_mem hj') b hxb
  · refine List.pairwise_iff_getElem.2 fun i j hi hj hij b hbi hbj => ?_
    have hi' : i < hp.length := by simpa using hi
    have hj' : j < hp.length := by simpa using hj
    rw [List.getElem_set] at hbi hbj
    by_cases h1 : k = i
    · subst h1
      have h2 : ¬ k = j := by omega
      rw [if_pos rfl] at hbi; rw [if_neg h2] at hbj
      rcases hb b hbi with h3 | h3
      · exact apart j hj' (fun e => h2 e.symm) b hbj h3
      · have := Ent.lt (h.ok _ (List.getElem_mem hj')) hbj; omega
    · rw [if_neg h1] at hbi
      by_cases h2 : k = j
      · subst h2
        rw [if_pos rfl] at hbj
        rcases hb b hbj with h3 | h3
        · exact apart i hi' (fun e => h1 e.symm) b hbi h3
        · have := Ent.lt (h.ok _ (List.getElem_mem hi')) hbi; omega
      · rw [if_neg h2] at hbj
        exact hpw i j hi' hj' hij b hbi hbj
theorem ST.cell {w0 w : World} {M : Nat → Prop} {hp : List Ent} (h : ST w0 M w hp) {k : Nat} {b : Nat} {t : TypeId} {cs : List Value} (hk : hp[k]? = some (.blk b t cs)) {i : Nat} {v : Value} (hv : cs[i]? = some v) : w.cell? ⟨b, i, none⟩ = some v :=
  (Bk.cell (h.at_ hk) i).trans hv

theorem Rw.rs {w : World} {v : Value} {t : TypeId} {sz : Nat} {xs : List Value} (h : Rw w v t sz xs) : Rs w v sz xs := by
  rcases h with ⟨rfl, rfl⟩ | ⟨g, n, cap, sp, rfl, hk, h1, h2, h3, h4⟩
  · exact ⟨none, 0, 0, rfl, Nat.le_refl _, by simp [maxLen], by simp, .inl rfl⟩
  · refine ⟨_, n, cap, rfl, h2, h3, h1, .inr ⟨g, 0, rfl, fun j u hu => ?_⟩⟩
    rw [hk.cell, Nat.zero_add]
    have : j < xs.length := by
      rcases Nat.lt_or_ge j xs.length with h | h
      · exact h
      · rw [List.getElem?_eq_none h] at hu; cases hu
    rw [List.getElem?_append_left this]; exact hu
/-- A slice of a block that is known whole. -/
theorem Bk.rs {w : World} {b : Nat} {t : TypeId} {cs : List Value} (h : Bk w b t cs) (o m c sz : Nat) (h1 : m ≤ c) (h2 : c ≤ maxLen) (h3 : o + m * sz ≤ cs.length) : Rs w (.slice (some ⟨b, o, none⟩) m c) sz ((cs.drop o).take (m * sz)) := by
  refine ⟨_, m, c, rfl, h1, h2, by simp; omega, .inr ⟨b, o, rfl, fun j u hu => ?_⟩⟩
  rw [h.cell]
  rw [List.getElem?_take] at hu
  split at hu
  · rw [List.getElem?_drop] at hu; exact hu
  · cases hu
end Go.Eng
