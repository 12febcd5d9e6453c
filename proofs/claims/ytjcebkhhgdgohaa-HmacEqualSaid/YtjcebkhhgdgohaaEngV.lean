/- The engine: rules by which a run of a function is read off, part V. -/
import Derived.Test.YtjcebkhhgdgohaaEngU
namespace Go.Eng
open Go Go.RowKit
theorem perm_top {α : Type} : ∀ (l : List α) (k : Nat) (e : α), l[k]? = some e → (e :: l.eraseIdx k).Perm l
  | [], k, e, h => by simp at h
  | x :: l, 0, e, h => by simp at h; subst h; simp
  | x :: l, k + 1, e, h => by
    simp only [List.getElem?_cons_succ] at h
    rw [List.eraseIdx_cons_succ]
    exact (List.Perm.swap x e _).trans ((perm_top l k e h).cons x)
section
variable {w w' w0 : World} {M : Nat → Prop} {hp es es' fr : List Ent}
theorem ST.ro_ {k sz : Nat} {v : Value} {xs : List Value} (h : ST w0 M w hp) (hk : hp[k]? = some (.ro v sz xs)) : Rs w v sz xs := (h.at_ hk).1
/-- The entries in another order. -/
theorem ST.perm (h : ST w0 M w hp) (p : hp.Perm es) : ST w0 M w es :=
  ⟨h.fr, fun e he => h.ok e (p.mem_iff.2 he), fun e he => h.own e (p.mem_iff.2 he), (p.pairwise_iff (fun h b h1 h2 => h b h2 h1)).1 h.sep⟩
/-- An entry, put ahead. -/
theorem ST.top {e : Ent} (h : ST w0 M w hp) (k : Nat) (hk : hp[k]? = some e) : ST w0 M w (e :: hp.eraseIdx k) := h.perm (perm_top hp k e hk).symm
/-- The part of memory that a call is given. -/
theorem ST.part (h : ST w0 M w (fr ++ es)) : ST w (Ours es) w es :=
  ⟨.refl _, fun e he => h.ok e (by simp [he]), fun e he _ hb => .inr ⟨e, he, hb⟩, (List.pairwise_append.1 h.sep).2.1⟩
/-- A call turns the part that it was given; all else stays. -/
theorem ST.call (h : ST w0 M w (fr ++ es)) (k : ST w (Ours es) w' es') : ST w0 M w' (fr ++ es') := by
  have hpw := List.pairwise_append.1 h.sep
  refine ⟨h.fr.trans k.fr (fun i hi hN => ?_), fun e he => ?_, fun e he b hb => ?_, List.pairwise_append.2 ⟨hpw.1, k.sep, fun e he f hf b hb hb' => ?_⟩⟩
  · obtain ⟨e, he, hb⟩ := hN
    rcases h.own e (by simp [he]) i hb with h1 | h1
    · omega
    · exact h1
  · rcases List.mem_append.1 he with he | he
    · refine Ent.fr (h.ok e (by simp [he])) k.fr (fun b hb hN => ?_)
      obtain ⟨f, hf, hb'⟩ := hN
      exact hpw.2.2 e he f hf b hb hb'
    · exact k.ok e he
  · rcases List.mem_append.1 he with he | he
    · exact h.own e (by simp [he]) b hb
    · rcases k.own e he b hb with h1 | ⟨f, hf, hb'⟩
      · exact .inl (Nat.le_trans h.fr.size h1)
      · exact h.own f (by simp [hf]) b hb'
  · have hlt := Ent.lt (h.ok e (by simp [he])) hb
    rcases k.own f hf b hb' with h1 | ⟨g, hg, hb2⟩
    · omega
    · exact hpw.2.2 e he g hg b hb hb2
/-- What a piece of the way made, beside what was there. -/
theorem ST.join (h : ST w0 M w hp) (k : ST w No w' es') : ST w0 M w' (es' ++ hp) := by
  have h1 : ST w0 M w (hp ++ []) := by rw [List.append_nil]; exact h
  have k1 : ST w (Ours []) w' es' := ⟨k.fr.mono (fun _ _ h => h.elim), k.ok, fun e he b hb => (k.own e he b hb).imp id (fun h => h.elim), k.sep⟩
  exact (h1.call k1).perm List.perm_append_comm
/-- A row that is only read from here on. -/
theorem ST.toRo {k sz : Nat} {t : TypeId} {v : Value} {xs : List Value} (h : ST w0 M w hp) (hk : hp[k]? = some (.row v t sz xs)) : ST w0 M w (hp.set k (.ro v sz xs)) :=
  h.upd hk (.refl _) ⟨(h.rw_ hk).rs, fun _ hb => (h.rw_ hk).lt hb⟩ (fun _ hb => .inl hb)
theorem ST.blkRo {k b m sz : Nat} {t : TypeId} {cs : List Value} (h : ST w0 M w hp) (hk : hp[k]? = some (.blk b t cs)) (hl : cs.length = m * sz) (hm : m ≤ maxLen) : ST w0 M w (hp.set k (.ro (.slice (some ⟨b, 0, none⟩) m m) sz cs)) := by
  have h1 := h.toRow hk hl hm
  have h2 := h1.toRo (k := k) (by rw [List.getElem?_set_self (getElem?_lt hk)])
  rwa [List.set_set] at h2
/-- Another cut of what is read. -/
theorem ST.reRo {k sz sz' : Nat} {v v' : Value} {xs xs' : List Value} (h : ST w0 M w hp) (hk : hp[k]? = some (.ro v sz xs)) (hr : Rs w v' sz' xs') (hb : ∀ b, v'.ownBlock = some b → v.ownBlock = some b) : ST w0 M w (hp.set k (.ro v' sz' xs')) :=
  h.upd hk (.refl _) ⟨hr, fun b hb' => (h.at_ hk).2 b (hb b hb')⟩ (fun b hb' => .inl (hb b hb'))
theorem ST.addRo {v : Value} {sz : Nat} {xs : List Value} (h : ST w0 M w hp) (hf : Fr No w w') (hr : Rs w' v sz xs) (hb : ∀ b, v.ownBlock = some b → w.heap.size ≤ b ∧ b < w'.heap.size) : ST w0 M w' (.ro v sz xs :: hp) :=
  h.add hf ⟨hr, fun b hb' => (hb b hb').2⟩ (fun b hb' => (hb b hb').1)
theorem cut_own {A : Option Addr} {m c x y : Nat} {p : Prop} [Decidable p] {b : Nat} (h : (Value.slice (if p then A else A.map (·.add x)) m c).ownBlock = some b) : (Value.slice A y c).ownBlock = some b := by
  cases A with
  | none => simp [Value.ownBlock] at h
  | some a =>
    split at h
    · simpa [Value.ownBlock] using h
    · simp only [Option.map, Value.ownBlock, Addr.add] at h ⊢
      split at h <;> simpa using h
section
variable {P : Program} {n : Md} {ops : Array Oper} {Q : QT} {rest : List Oper} {l : Env} {d : Nat}
theorem pv_extL {P : Program} {l : Env} {d i : Nat} {ty : TypeId} {pos : String} {af : Array Edge} {v : Value} {x : Operand} {vs : List Value} (hx : ev l x = some (.tuple vs.toArray)) (hv : vs[i]? = some v) : PV P l ⟨some d, .extract x i, ty, pos, af, none⟩ v := pv_extract hx (by simpa using hv)
theorem yielded_undef {a : Act} (ha : Ag n a l) {g : Oper} {j t : Nat} (hj : ops[j]? = some g) (ht : g.dst = some t) (hv : lk l t = some undef) : yielded ops a.tmps j = none := by
  simp [yielded, hj, ht, ha.at_ t _ hv, undef]
/-- A guarded operation whose guard was itself left out. -/
theorem WL.guardU {o g : Oper} {j t d : Nat} {b : Bool} (hg : o.guard = some (j, b)) (hj : ops[j]? = some g) (ht : g.dst = some t) (hv : lk l t = some undef) (ho : o.dst = some d) (hd : Nat.blt d n.tmps = true)
    (k : WL P n ops Q rest ((d, undef) :: l) w) : WL P n ops Q (o :: rest) l w := fun a ha => by
  have hw : Region.wanted o (yielded ops a.tmps) = false := by simp [Region.wanted, hg, yielded_undef ha hj ht hv]
  unfold wpL
  rw [if_neg (by simp [hw]), ho]
  exact k _ (ha.put undef (Nat.le_of_ble_eq_true hd))
theorem WS.guardU {K : Act → Prop} {o g : Oper} {j t d : Nat} {b : Bool} (hg : o.guard = some (j, b)) (hj : ops[j]? = some g) (ht : g.dst = some t) (hv : lk l t = some undef) (ho : o.dst = some d) (hd : Nat.blt d n.tmps = true)
    (k : WS P n ops w K rest ((d, undef) :: l)) : WS P n ops w K (o :: rest) l := fun a ha => by
  have hw : Region.wanted o (yielded ops a.tmps) = false := by simp [Region.wanted, hg, yielded_undef ha hj ht hv]
  unfold wpStill
  rw [if_neg (by simp [hw]), ho]
  exact k _ (ha.put undef (Nat.le_of_ble_eq_true hd))
end
theorem Ours.front {b : Nat} (h : Ours es b) : Ours (fr ++ es) b := by
  obtain ⟨e, he, hb⟩ := h
  exact ⟨e, by simp [he], hb⟩
end
end Go.Eng
