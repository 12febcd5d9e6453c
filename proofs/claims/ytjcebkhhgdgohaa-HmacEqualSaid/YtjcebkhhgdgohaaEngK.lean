/- The engine: rules by which a run of a function is read off, part K. -/
import Derived.Test.YtjcebkhhgdgohaaEngJ
namespace Go.Eng
open Go Go.RowKit
section
variable {P : Program} {n : Md} {w w' w0 : World} {M : Nat → Prop} {hp : List Ent}
theorem Rs.at_ {A : Option Addr} {n c sz : Nat} {xs : List Value} (h : Rs w (.slice A n c) sz xs) (hne : 0 < xs.length) : ∃ b o, A = some ⟨b, o, none⟩ ∧ xs.length = n * sz ∧ n ≤ c ∧ c ≤ maxLen ∧ ∀ j u, xs[j]? = some u → w.cell? ⟨b, o + j, none⟩ = some u := by
  obtain ⟨A', n', c', he, h1, h2, h3, h4⟩ := h
  injection he with e1 e2 e3; subst e1; subst e2; subst e3
  rcases h4 with rfl | ⟨b, o, rfl, h4⟩
  · simp at hne
  · exact ⟨b, o, rfl, h3, h1, h2, h4⟩
theorem Rs.len {A : Option Addr} {n c sz : Nat} {xs : List Value} (h : Rs w (.slice A n c) sz xs) : xs.length = n * sz ∧ n ≤ c ∧ c ≤ maxLen := by
  obtain ⟨A', n', c', he, h1, h2, h3, _⟩ := h
  injection he with e1 e2 e3; subst e1; subst e2; subst e3
  exact ⟨h3, h1, h2⟩
theorem ST.updB {k b : Nat} {t : TypeId} {cs cs' : List Value} (h : ST w0 M w hp) (hk : hp[k]? = some (.blk b t cs)) (hf : Fr (fun x => x = b) w w') (hB : Bk w' b t cs') : ST w0 M w' (hp.set k (.blk b t cs')) :=
  h.upd hk (hf.mono fun i _ hi => by simp only [Ent.block]; rw [hi]) hB (fun _ h => .inl h)
theorem ST.updR {k sz : Nat} {t : TypeId} {v v' : Value} {xs xs' : List Value} (h : ST w0 M w hp) (hk : hp[k]? = some (.row v t sz xs)) (hf : Fr (fun x => v.ownBlock = some x) w w') (hB : Rw w' v' t sz xs') (hb : ∀ b, v'.ownBlock = some b → v.ownBlock = some b ∨ w.heap.size ≤ b) : ST w0 M w' (hp.set k (.row v' t sz xs')) :=
  h.upd hk hf hB hb
theorem ST.erase (h : ST w0 M w hp) (k : Nat) : ST w0 M w (hp.eraseIdx k) :=
  ⟨h.fr, fun e he => h.ok e (List.mem_of_mem_eraseIdx he), fun e he => h.own e (List.mem_of_mem_eraseIdx he), h.sep.sublist (List.eraseIdx_sublist hp k)⟩
theorem Bk.ne {b c : Nat} {t u : TypeId} {cs ds : List Value} (h : Bk w b t cs) (k : Bk w c u ds) (hne : t ≠ u) : b ≠ c := by
  rintro rfl
  obtain ⟨f, h, _⟩ := h
  obtain ⟨g, k, _⟩ := k
  rw [h] at k
  injection k with k
  injection k with _ e
  exact hne e
theorem Rw.ne {b sz : Nat} {t u : TypeId} {v : Value} {xs ds : List Value} (h : Rw w v t sz xs) (k : Bk w b u ds) (hne : t ≠ u) : v.ownBlock ≠ some b := by
  rcases h with ⟨rfl, _⟩ | ⟨g, n, cap, sp, rfl, hk, _⟩
  · simp [Value.ownBlock]
  · intro he
    have : g = b := by simpa [Value.ownBlock] using he
    exact hk.ne k hne this
/-- Bytes as cells. -/
def bs8 (l : List UInt8) : List Value := l.map b8
theorem bs8_len (l : List UInt8) : (bs8 l).length = l.length := by simp [bs8]
theorem bs8_at {l : List UInt8} {j : Nat} (h : j < l.length) : (bs8 l)[j]? = some (b8 l[j]) := by simp [bs8, h]
theorem bs8_app (l m : List UInt8) : bs8 (l ++ m) = bs8 l ++ bs8 m := by simp [bs8]
theorem bs8_one {l : List UInt8} : ∀ u ∈ bs8 l, u.oneCell' = true := by simp [bs8, Value.oneCell']
theorem bs8_set (l : List UInt8) (k : Nat) (v : UInt8) : (bs8 l).set k (b8 v) = bs8 (l.set k v) := by simp [bs8, List.map_set]
theorem bs8_snoc (l : List UInt8) (c : UInt8) : bs8 l ++ [b8 c] = bs8 (l ++ [c]) := by simp [bs8]
theorem bs8_nil : bs8 [] = [] := rfl
theorem Rw.form8 {v : Value} {t : TypeId} {l : List UInt8} (h : Rw w v t 1 (bs8 l)) (hne : 0 < l.length) : ∃ g m cap, v = .slice (some ⟨g, 0, none⟩) m cap ∧ m = l.length ∧ m ≤ cap ∧ cap ≤ maxLen := by
  rcases h with ⟨_, h⟩ | ⟨g, m, cap, sp, rfl, hk, h1, h2, h3, h4⟩
  · have := congrArg List.length h; rw [bs8_len] at this; simp at this; simp [this] at hne
  · exact ⟨g, m, cap, rfl, by rw [bs8_len] at h1; omega, h2, h3⟩
theorem Rw.anyForm {v : Value} {t : TypeId} {sz : Nat} {xs : List Value} (h : Rw w v t sz xs) : ∃ A m cap, v = .slice A m cap ∧ xs.length = m * sz ∧ m ≤ cap ∧ cap ≤ maxLen := by
  rcases h with ⟨rfl, rfl⟩ | ⟨g, m, cap, sp, rfl, hk, h1, h2, h3, h4⟩
  · exact ⟨none, 0, 0, rfl, by simp, Nat.le_refl _, by simp [maxLen]⟩
  · exact ⟨_, m, cap, rfl, h1, h2, h3⟩
/-- A row cut to nothing. -/
theorem Rw.cut0 {A : Option Addr} {m c sz : Nat} {t : TypeId} {xs : List Value} (h : Rw w (.slice A m c) t sz xs) : Rw w (.slice A 0 c) t sz [] := by
  rcases h with ⟨he, _⟩ | ⟨g, m', cap, sp, he, hk, h1, h2, h3, h4⟩
  · injection he with e1 e2 e3; subst e1; subst e3; exact .inl ⟨rfl, rfl⟩
  · injection he with e1 e2 e3; subst e1; subst e2; subst e3
    exact .inr ⟨g, 0, c, xs ++ sp, rfl, hk, by simp, Nat.zero_le _, h3, h4⟩
theorem ST.cut0 {k m c sz : Nat} {A : Option Addr} {t : TypeId} {xs : List Value} (h : ST w0 M w hp) (hk : hp[k]? = some (.row (.slice A m c) t sz xs)) : ST w0 M w (hp.set k (.row (.slice A 0 c) t sz [])) :=
  h.upd hk (.refl _) (Rw.cut0 (h.at_ hk)) (fun b hb => .inl (by cases A with
    | none => simp [Ent.block, Value.ownBlock] at hb
    | some a => simpa [Ent.block, Value.ownBlock] using hb))
theorem ST.sep' (h : ST w0 M w hp) {i j : Nat} {e f : Ent} (hi : hp[i]? = some e) (hj : hp[j]? = some f) (hij : i < j) {b : Nat} (hb : e.block = some b) : f.block ≠ some b := by
  have hil := getElem?_lt hi
  have hjl := getElem?_lt hj
  have := List.pairwise_iff_getElem.1 h.sep i j hil hjl hij
  rw [List.getElem?_eq_getElem hil] at hi; injection hi with hi
  rw [List.getElem?_eq_getElem hjl] at hj; injection hj with hj
  rw [hi, hj] at this
  exact this b hb
theorem ST.own' (h : ST w0 M w hp) {i : Nat} {e : Ent} (hi : hp[i]? = some e) {b : Nat} (hb : e.block = some b) : w0.heap.size ≤ b ∨ M b := h.own e (List.mem_of_getElem? hi) b hb
/-- Several entries turned at once. -/
theorem ST.gen {hp' : List Ent} {N : Nat → Prop} (h : ST w0 M w hp) (hl : hp'.length = hp.length) (hf : Fr N w w') (hN : ∀ b, N b → ∃ e ∈ hp, e.block = some b)
    (hok : ∀ (k : Nat) (hk : k < hp.length) (hk' : k < hp'.length), (hp'[k] = hp[k] ∧ ∀ b, hp[k].block = some b → ¬ N b) ∨ hp'[k].ok w')
    (hbl : ∀ (k : Nat) (hk : k < hp.length) (hk' : k < hp'.length) (b : Nat), hp'[k].block = some b → hp[k].block = some b ∨ w.heap.size ≤ b)
    (hnew : ∀ (i j : Nat) (hi : i < hp'.length) (hj : j < hp'.length), i < j → ∀ b, w.heap.size ≤ b → hp'[i].block = some b → hp'[j].block ≠ some b) : ST w0 M w' hp' := by
  have hpw := List.pairwise_iff_getElem.1 h.sep
  refine ⟨h.fr.trans hf (fun i hi hn => ?_), ?_, ?_, ?_⟩
  · obtain ⟨e, he, hb⟩ := hN i hn
    rcases h.own e he i hb with h1 | h1
    · omega
    · exact h1
  · intro x hx
    obtain ⟨k, hk, rfl⟩ := List.getElem_of_mem hx
    have hk' : k < hp.length := by omega
    rcases hok k hk' hk with ⟨h1, h2⟩ | h1
    · rw [h1]; exact Ent.fr (h.ok _ (List.getElem_mem hk')) hf h2
    · exact h1
  · intro x hx b hxb
    obtain ⟨k, hk, rfl⟩ := List.getElem_of_mem hx
    have hk' : k < hp.length := by omega
    rcases hbl k hk' hk b hxb with h1 | h1
    · exact h.own _ (List.getElem_mem hk') b h1
    · exact .inl (Nat.le_trans h.fr.size h1)
  · refine List.pairwise_iff_getElem.2 fun i j hi hj hij b hbi hbj => ?_
    have hi' : i < hp.length := by omega
    have hj' : j < hp.length := by omega
    rcases hbl i hi' hi b hbi with h1 | h1
    · rcases hbl j hj' hj b hbj with h2 | h2
      · exact hpw i j hi' hj' hij b h1 h2
      · have := Ent.lt (h.ok _ (List.getElem_mem hi')) h1; omega
    · exact hnew i j hi hj hij b h1 hbi hbj
/-- A block and a row turned at once. -/
theorem ST.upd2 {i j b sz : Nat} {t t2 : TypeId} {cs cs' xs xs' : List Value} {v v' : Value} (h : ST w0 M w hp) (hi : hp[i]? = some (.blk b t cs)) (hj : hp[j]? = some (.row v t2 sz xs)) (hf : Fr (fun x => x = b ∨ v.ownBlock = some x) w w') (hB : Bk w' b t cs') (hR : Rw w' v' t2 sz xs')
    (hb : ∀ x, v'.ownBlock = some x → v.ownBlock = some x ∨ w.heap.size ≤ x) : ST w0 M w' ((hp.set i (.blk b t cs')).set j (.row v' t2 sz xs')) := by
  have hil := getElem?_lt hi
  have hjl := getElem?_lt hj
  rw [List.getElem?_eq_getElem hil] at hi; injection hi with hi
  rw [List.getElem?_eq_getElem hjl] at hj; injection hj with hj
  have hij : i ≠ j := by rintro rfl; rw [hi] at hj; cases hj
  have hpw := List.pairwise_iff_getElem.1 h.sep
  have apart : ∀ (a c : Nat) (ha : a < hp.length) (hc : c < hp.length), a ≠ c → ∀ b, hp[a].block = some b → hp[c].block ≠ some b := by
    intro a c ha hc hne b h1 h2
    rcases Nat.lt_or_gt_of_ne hne with h3 | h3
    · exact hpw a c ha hc h3 b h1 h2
    · exact hpw c a hc ha h3 b h2 h1
  refine h.gen (by simp) hf (fun x hx => ?_) (fun k hk hk' => ?_) (fun k hk hk' x hx => ?_) (fun a c ha hc hac x hx h1 h2 => ?_)
  · rcases hx with rfl | hx
    · exact ⟨_, List.getElem_mem hil, by rw [hi]; rfl⟩
    · exact ⟨_, List.getElem_mem hjl, by rw [hj]; exact hx⟩
  · rw [List.getElem_set]
    split
    · exact .inr hR
    · rename_i hjk
      rw [List.getElem_set]
      split
      · exact .inr hB
      · rename_i hik
        refine .inl ⟨rfl, fun x hx hN => ?_⟩
        rcases hN with rfl | hN
        · exact apart k i hk hil (fun e => hik e.symm) x hx (by rw [hi]; rfl)
        · exact apart k j hk hjl (fun e => hjk e.symm) x hx (by rw [hj]; exact hN)
  · rw [List.getElem_set] at hx
    split at hx
    · rename_i hjk; subst hjk
      rw [hj]; exact hb x hx
    · rw [List.getElem_set] at hx
      split at hx
      · rename_i hik; subst hik
        rw [hi]; exact .inl hx
      · exact .inl hx
  · have hlen : ((hp.set i (.blk b t cs')).set j (.row v' t2 sz xs')).length = hp.length := by simp
    have old : ∀ (k : Nat) (hk : k < ((hp.set i (.blk b t cs')).set j (.row v' t2 sz xs')).length), k ≠ j → ((hp.set i (.blk b t cs')).set j (.row v' t2 sz xs'))[k].block = some x → False := by
      intro k hk hkj hx2
      have hk' : k < hp.length := by omega
      rw [List.getElem_set, if_neg (fun e => hkj e.symm), List.getElem_set] at hx2
      split at hx2
      · rename_i hik; subst hik
        have : b < w.heap.size := Bk.lt (t := t) (cs := cs) (by have := h.ok _ (List.getElem_mem hil); rw [hi] at this; exact this)
        simp [Ent.block] at hx2; omega
      · have := Ent.lt (h.ok _ (List.getElem_mem hk')) hx2; omega
    by_cases haj : a = j
    · exact old c hc (by omega) h2
    · exact old a ha haj h1
theorem ST.apart (h : ST w0 M w hp) {i j : Nat} {e f : Ent} (hi : hp[i]? = some e) (hj : hp[j]? = some f) (hij : i ≠ j) {b : Nat} (hb : e.block = some b) : f.block ≠ some b := by
  rcases Nat.lt_or_gt_of_ne hij with h1 | h1
  · exact h.sep' hi hj h1 hb
  · intro h2; exact h.sep' hj hi h1 h2 hb
theorem hap {k i j b d : Nat} {t t2 t3 sz : Nat} {cs ds xs : List Value} {v : Value} (h : ST w0 M w hp) (hk : hp[k]? = some (.blk b t cs)) (hi : hp[i]? = some (.blk d t2 ds)) (hj : hp[j]? = some (.row v t3 sz xs)) (hki : k ≠ i) (hkj : k ≠ j) :
    ¬ (b = d ∨ v.ownBlock = some b) := by
  rintro (h1 | h1)
  · exact h.apart hk hi hki (b := b) rfl (by simp only [Ent.block]; rw [← h1])
  · exact h.apart hk hj hkj (b := b) rfl h1
/-- What was there when the call began is apart from what the call has of its own. -/
theorem ST.old {i : Nat} {e : Ent} (h : ST w0 No w hp) (hi : hp[i]? = some e) {b : Nat} (hb : b < w0.heap.size) : e.block ≠ some b := fun h1 => by
  rcases h.own' hi h1 with h2 | h2
  · omega
  · exact h2
theorem hold {i j b d : Nat} {t2 t3 sz : Nat} {ds xs : List Value} {v : Value} (h : ST w0 No w hp) (hi : hp[i]? = some (.blk d t2 ds)) (hj : hp[j]? = some (.row v t3 sz xs)) (hb : b < w0.heap.size) : ¬ (b = d ∨ v.ownBlock = some b) := by
  rintro (h1 | h1)
  · exact h.old hi hb (by simp only [Ent.block]; rw [h1])
  · exact h.old hj hb h1
theorem ST.addNil (h : ST w0 M w hp) (t : TypeId) (sz : Nat) : ST w0 M w (.row (.slice none 0 0) t sz [] :: hp) :=
  h.add (.refl _) (.inl ⟨rfl, rfl⟩) (fun b hb => by simp [Ent.block, Value.ownBlock] at hb)
/-- A slice of byte slices that is read. -/
def RsL (w : World) (v : Value) (ls : List (List UInt8)) : Prop := ∃ vs, Rs w v 1 vs ∧ vs.length = ls.length ∧ ∀ i (hi : i < vs.length) (hj : i < ls.length), Rs w vs[i] 1 (bs8 ls[i])
theorem RsL.fr {N : Nat → Prop} {v : Value} {ls : List (List UInt8)} (h : RsL w v ls) (hf : Fr N w w') (hN : ∀ b, b < w.heap.size → ¬ N b) : RsL w' v ls := by
  obtain ⟨vs, h1, h2, h3⟩ := h
  have key : ∀ {v : Value} {xs : List Value}, Rs w v 1 xs → Rs w' v 1 xs := by
    intro v xs h
    obtain ⟨A, m, c, rfl, g1, g2, g3, g4⟩ := h
    refine ⟨A, m, c, rfl, g1, g2, g3, ?_⟩
    rcases g4 with g4 | ⟨b, o, rfl, g4⟩
    · exact .inl g4
    · refine .inr ⟨b, o, rfl, fun j u hu => hf.cellS (g4 j u hu) (hN b (World.block_lt_of_cell? w _ (g4 j u hu)))⟩
  exact ⟨vs, key h1, h2, fun i hi hj => key (h3 i hi hj)⟩
theorem Rs.keep {N : Nat → Prop} {v : Value} {sz : Nat} {xs : List Value} (h : Rs w v sz xs) (hf : Fr N w w') (hN : ∀ b, b < w.heap.size → ¬ N b) : Rs w' v sz xs := by
  obtain ⟨A, m, c, rfl, g1, g2, g3, g4⟩ := h
  refine ⟨A, m, c, rfl, g1, g2, g3, ?_⟩
  rcases g4 with g4 | ⟨b, o, rfl, g4⟩
  · exact .inl g4
  · refine .inr ⟨b, o, rfl, fun j u hu => hf.cellS (g4 j u hu) (hN b (World.block_lt_of_cell? w _ (g4 j u hu)))⟩
theorem Rs.blkLt {A : Option Addr} {n c sz : Nat} {xs : List Value} (h : Rs w (.slice A n c) sz xs) (hne : 0 < xs.length) : ∀ a, A = some a → a.block < w.heap.size := by
  intro a ha
  obtain ⟨b, o, rfl, _, _, _, h4⟩ := h.at_ hne
  injection ha with ha; subst ha
  exact World.block_lt_of_cell? w _ (h4 0 _ (List.getElem?_eq_getElem hne))
end
end Go.Eng
