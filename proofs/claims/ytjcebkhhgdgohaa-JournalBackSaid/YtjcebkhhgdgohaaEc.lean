/- The engine: rules by which a run of a function is read off, third part. -/
import Derived.Deep.Slices
import Derived.OpenShut
import Derived.Laws.RangeAny
import Derived.RangeFuncRecord
import Derived.SizedLaws
import Derived.RangeFuncLeaves
import Derived.OrdersIn
import Derived.Test.YtjcebkhhgdgohaaEb
namespace Go.Eng
open Go Go.RowKit
theorem zeroCells_list (zs : List Value) (n : Nat) : (Builtin.zeroCells zs.toArray n).toList = (List.replicate n zs).flatten := by
  have h := madeCells_list zs n
  simpa [madeCells, Builtin.zeroCells] using h
theorem run_appendZ {P : Program} {w : World} {T U ty e : TypeId} {k k2 : IntKind} {sz by_ N m : Nat} {v : Value} {xs zs : List Value} (hT : slT P T = some (e, sz, by_)) (hzT : zeroT P e = some zs) (hzl : zs.length = sz) (hU : P.underlying U = some (.int k)) (hsz : 0 < sz)
    (hv : Rw w v e sz xs) (hone : ∀ u ∈ zs, u.oneCell' = true) (hN : xs.length + m * sz ≤ N * sz) (hb : N * by_ ≤ 140737488355328) (hN2 : N ≤ maxLen) :
    ∃ v' w', (Builtin.append_ #[T, U] ty #[v, .int k2 (m : Int)]).run P w = .ok v' w' ∧ Fr (fun b => v.ownBlock = some b) w w' ∧ Rw w' v' e sz (xs ++ (List.replicate m zs).flatten) ∧ (∀ b, v'.ownBlock = some b → v.ownBlock = some b ∨ w.heap.size ≤ b) ∧ Rs w' v sz xs := by
  have hvr := hv.rs
  unfold slT at hT
  cases hu : P.underlying T with
  | none => simp [hu] at hT
  | some u =>
  cases u <;> simp [hu] at hT
  obtain ⟨i, hi, rfl, rfl, rfl⟩ := hT
  rename_i e
  have hz' : ∃ z, i.zero = some z ∧ z.cells = zs.toArray := by
    unfold zeroT at hzT
    rw [hi] at hzT
    cases hzz : i.zero with
    | none => simp [hzz] at hzT
    | some z => exact ⟨z, rfl, by simp [hzz] at hzT; rw [← hzT]⟩
  obtain ⟨z, hz1, hz3⟩ := hz'
  have hz2 : z.cells.size = i.size := by rw [hz3]; simpa using hzl
  have hwr : IntKind.i64.wrap (m : Int) = (m : Int) := by
    have h1 : m * i.size ≤ N * i.size := by omega
    have h2 : m ≤ N := Nat.le_of_mul_le_mul_right h1 hsz
    have := hN2; simp only [maxLen] at this
    exact wrap_i64 (by omega) (by omega)
  have hmN : m ≤ N := Nat.le_of_mul_le_mul_right (show m * i.size ≤ N * i.size by omega) hsz
  have hm48 : ¬ (281474976710656 < (m : Int) * (i.bytes : Int)) := by
    have h3 : m * i.bytes ≤ N * i.bytes := Nat.mul_le_mul_right _ hmN
    have h4 : ((m * i.bytes : Nat) : Int) = (m : Int) * (i.bytes : Int) := by simp
    omega
  obtain ⟨ys, hys⟩ : ∃ ys, ys = (List.replicate m zs).flatten := ⟨_, rfl⟩
  have hl : ys.length = m * i.size := by rw [hys]; simp [hzl]
  have hl0 : m * i.size = 0 → ys = [] := fun h => List.eq_nil_of_length_eq_zero (by omega)
  rw [← hys]
  have h1 : ∀ u ∈ ys, u.oneCell' = true := by
    intro u hu2
    rw [hys] at hu2
    obtain ⟨l, hl1, hl2⟩ := List.mem_flatten.1 hu2
    rw [(List.mem_replicate.1 hl1).2] at hl2
    exact hone u hl2
  have happ : ∀ w', (if m * i.size = 0 then (pure #[] : Sem (Array Value)) else do pure (Builtin.zeroCells (← zeroValue e).cells m)).run P w' = .ok ys.toArray w' := by
    intro w'
    split
    · rename_i h0; rw [hl0 h0]; rfl
    · simp [zeroValue, typeInfo, hi, hz1, hz3]
      apply Array.ext'
      rw [zeroCells_list, hys]
  have hw0 : IntKind.i64.wrap 0 = 0 := by decide
  have hys2 : Builtin.zeroCells z.cells m = ys.toArray := by
    apply Array.ext'
    rw [hz3, zeroCells_list, hys]
  have hzv : ∀ w' : World, (zeroValue e).run P w' = .ok z w' := fun w' => by simp [zeroValue, typeInfo, hi, hz1]
  have hneg : ¬ ((m : Int) < 0) := by omega
  have hcap : (281474976710656 < (m : Int) * (i.bytes : Int)) = False := by simpa using hm48
  have hf : ∀ w', Fr No w w' → _ := fun w' (_ : Fr No w w') => happ w'
  have zlen : ∀ n, (Builtin.zeroCells z.cells n).toList.length = n * i.size := fun n => by rw [size_zeros, hz2]
  -- a new block
  have grown : ∀ (n old : Nat), xs.length = n * i.size → old < n + m →
      ∀ cap, cap = grownCap w (n + m) old e →
      Fr No w (w.drew.alloc (.cells (xs.toArray ++ ys.toArray ++ Builtin.zeroCells z.cells (cap - (n + m))) e)) ∧
      Rw (w.drew.alloc (.cells (xs.toArray ++ ys.toArray ++ Builtin.zeroCells z.cells (cap - (n + m))) e)) (.slice (some ⟨w.heap.size, 0, none⟩) (n + m) cap) e i.size (xs ++ ys) := by
    intro n old hn ho cap hcap
    have hge : n + m ≤ cap := by rw [hcap]; exact grownCap_ge w (n + m) old e
    have hnm : n + m ≤ N := by
      have : (n + m) * i.size ≤ N * i.size := by rw [Nat.add_mul, ← hn]; exact hN
      exact Nat.le_of_mul_le_mul_right this hsz
    have hcm : cap ≤ maxLen := by rw [hcap]; exact grownCap_le_maxLen w (n + m) old e (Nat.le_trans hnm hN2)
    refine ⟨(Fr.drew w).trans (Fr.alloc w.drew _) (fun _ _ h => h), .inr ⟨w.heap.size, n + m, cap, (Builtin.zeroCells z.cells (cap - (n + m))).toList, rfl, ?_, ?_, hge, hcm, ?_⟩⟩
    · have := Bk.new w.drew e (xs ++ ys ++ (Builtin.zeroCells z.cells (cap - (n + m))).toList)
      have e1 : (xs ++ ys ++ (Builtin.zeroCells z.cells (cap - (n + m))).toList).toArray = xs.toArray ++ ys.toArray ++ Builtin.zeroCells z.cells (cap - (n + m)) := by
        apply Array.ext'; simp
      rw [e1] at this
      exact this
    · simp [hn, hl, Nat.add_mul]
    · rw [List.length_append, List.length_append, hn, hl, zlen, ← Nat.add_mul, ← Nat.add_mul]; congr 1; omega
  rcases hv with ⟨rfl, rfl⟩ | ⟨g, n, cap, sp, rfl, hk, hn, hnc, hcm, hlen⟩
  · by_cases h0 : m = 0
    · subst h0
      have hy : ys = [] := List.eq_nil_of_length_eq_zero (by simpa using hl)
      subst hy
      refine ⟨.slice none 0 0, w, ?_, .refl _, .inl ⟨rfl, rfl⟩, by simp [Value.ownBlock], hvr⟩
      have := hf w (.refl _)
      simp [Builtin.append_, run_underlying hu, sizeOf, typeInfo, hi, run_underlying hU, asInt, asIntOf, hw0]
    · have hm : ¬ m ≤ 0 := by omega
      have hmN : m ≤ N := by
        have : m * i.size ≤ N * i.size := by simpa using hN
        exact Nat.le_of_mul_le_mul_right this hsz
      have h63 : ¬ (9223372036854775807 < (m : Int)) := by have := hN2; simp only [maxLen] at this; omega
      have h48 : ¬ (281474976710656 < Builtin.nextslicecap m 0 * i.bytes) := by
        rw [nextslicecap_zero (by omega)]
        have : m * i.bytes ≤ N * i.bytes := Nat.mul_le_mul_right _ hmN
        omega
      have g1 := grown 0 0 (by simp) (by omega) _ rfl
      have hfd := hf w.drew (Fr.drew w)
      refine ⟨.slice (some ⟨w.heap.size, 0, none⟩) (0 + m) (grownCap w (0 + m) 0 e), _, ?_, g1.1.no, g1.2, fun b hb => .inr (by simp [Value.ownBlock] at hb; omega), hvr.no g1.1⟩
      have h0z : ¬ (m * i.size = 0) := by
        intro h; rcases Nat.mul_eq_zero.1 h with h | h <;> omega
      simp [Builtin.append_, run_underlying hu, sizeOf, typeInfo, hi, hzv, run_underlying hU, asInt, asIntOf, hwr, hneg, hcap, h0, h63, h48, Question.forced, run_firstCells_none, newRow, grownCap, h0z, hys2]
  · have hnm : n + m ≤ N := by
      have : (n + m) * i.size ≤ N * i.size := by rw [Nat.add_mul, ← hn]; exact hN
      exact Nat.le_of_mul_le_mul_right this hsz
    by_cases hroom : n + m ≤ cap
    · have hfw := hf w (.refl _)
      have hfit : n * i.size + ys.length ≤ (xs ++ sp).length := by rw [hlen, hl, ← Nat.add_mul]; exact Nat.mul_le_mul_right _ hroom
      have hst := run_storeCells_bk (P := P) g (n * i.size) e ys 0 (xs ++ sp) w hk (by simpa using hfit) h1
      simp only [Nat.add_zero] at hst
      have e1 : (xs ++ sp).take (n * i.size) ++ ys ++ (xs ++ sp).drop (n * i.size + ys.length) = xs ++ ys ++ sp.drop ys.length := by
          rw [← hn, List.take_left, List.drop_append]
          simp
      have hB : Bk (w.setRow g ((xs ++ sp).take (n * i.size) ++ ys ++ (xs ++ sp).drop (n * i.size + ys.length)).toArray) g e (xs ++ ys ++ sp.drop ys.length) := by
        rw [e1]
        refine Bk.set hk ?_
        simp at hlen hfit ⊢; omega
      refine ⟨.slice (some ⟨g, 0, none⟩) (n + m) cap, w.setRow g ((xs ++ sp).take (n * i.size) ++ ys ++ (xs ++ sp).drop (n * i.size + ys.length)).toArray, ?_, Fr.setRow w g _ rfl, .inr ⟨g, n + m, cap, sp.drop ys.length, rfl, ?_, ?_, hroom, hcm, ?_⟩, fun b hb => .inl hb, ⟨_, _, _, rfl, hnc, hcm, hn, .inr ⟨g, 0, rfl, fun j u hu => by rw [Nat.zero_add, hB.cell, List.append_assoc, List.getElem?_append_left (getElem?_lt hu)]; exact hu⟩⟩⟩
      · by_cases h0z : m * i.size = 0
        · have e0 := hl0 h0z
          clear hys2 happ hf
          subst e0
          simp [Builtin.append_, run_underlying hu, sizeOf, typeInfo, hi, run_underlying hU, asInt, asIntOf, hwr, hneg, hcap, hroom, h0z, add0, hst]
        · simp [Builtin.append_, run_underlying hu, sizeOf, typeInfo, hi, run_underlying hU, asInt, asIntOf, hwr, hneg, hcap, hroom, h0z, hzv, hys2, add0, hst]
      · exact hB
      · simp [hn, hl, Nat.add_mul]
      · simp at hlen hfit ⊢; omega
    · have hroom' : ¬ n + m ≤ cap := hroom
      have h63 : ¬ (9223372036854775807 < ((n : Int) + (m : Int))) := by have := hN2; simp only [maxLen] at this; omega
      have h48 : ¬ (281474976710656 < Builtin.nextslicecap (n + m) cap * i.bytes) := by
        have := growslice_fits (bytes := i.bytes) (old := cap) (need := n + m) (by omega) (by
          have : (n + m) * i.bytes ≤ N * i.bytes := Nat.mul_le_mul_right _ hnm
          omega)
        omega
      have g1 := grown n cap hn (by omega) _ rfl
      have hfd := hf w.drew (Fr.drew w)
      have hold : (Builtin.firstCells i.size n (.slice (some ⟨g, 0, none⟩) n cap)).run P w.drew = .ok xs.toArray w.drew :=
        run_firstCells_some w.drew i.size n _ n cap xs hn (fun j u hu => by
          rw [add0, World.cell?_drew, hk.cell, Nat.zero_add, List.getElem?_append_left (getElem?_lt hu)]; exact hu)
      refine ⟨.slice (some ⟨w.heap.size, 0, none⟩) (n + m) (grownCap w (n + m) cap e), _, ?_, g1.1.no, g1.2, fun b hb => .inr (by simp [Value.ownBlock] at hb; omega), hvr.no g1.1⟩
      by_cases h0z : m * i.size = 0
      · have e0 := hl0 h0z
        clear hys2 happ hf hfd
        subst e0
        simp [Builtin.append_, run_underlying hu, sizeOf, typeInfo, hi, hzv, run_underlying hU, asInt, asIntOf, hwr, hneg, hcap, hroom', h63, h48, Question.forced, hold, newRow, grownCap, h0z]
      · simp [Builtin.append_, run_underlying hu, sizeOf, typeInfo, hi, hzv, run_underlying hU, asInt, asIntOf, hwr, hneg, hcap, hroom', h63, h48, Question.forced, hold, newRow, grownCap, h0z, hys2]
        congr 2
        apply Array.ext'
        simp
section
variable {P : Program} {n : Md} {ops : Array Oper} {Q : QT} {rest : List Oper} {l : Env} {w w0 : World} {M : Nat → Prop} {hp : List Ent} {d : Nat} {ty : TypeId} {pos : String} {af : Array Edge} {v : Value} {T U : TypeId} {x y : Operand}
/-- So many zero elements behind a row. -/
theorem WL.appendZ {k e sz by_ N q : Nat} {kk k2 : IntKind} {xs zs : List Value} (hS : ST w0 M w hp) (hT : slT P T = some (e, sz, by_)) (hz : zeroT P e = some zs) (hzl : zs.length = sz) (hU : P.underlying U = some (.int kk)) (hsz : 0 < sz) (hone : ∀ u ∈ zs, u.oneCell' = true)
    (hx : ev l x = some v) (hk : hp[k]? = some (.row v e sz xs)) (hy : ev l y = some (.int k2 (q : Int))) (hN : xs.length + q * sz ≤ N * sz) (hb : N * by_ ≤ 140737488355328) (hN2 : N ≤ maxLen) (hd : Nat.blt d n.tmps = true)
    (K : ∀ v' w', Fr (fun b => v.ownBlock = some b) w w' → ST w0 M w' (hp.set k (.row v' e sz (xs ++ (List.replicate q zs).flatten))) → WL P n ops Q rest ((d, v') :: l) w') :
    WL P n ops Q (⟨some d, .call { callee := .builtin .append, args := #[x, y], argTypes := #[T, U] }, ty, pos, af, none⟩ :: rest) l w := by
  obtain ⟨v', w', hrun, hf, hrw, hbl, _⟩ := run_appendZ (P := P) (ty := ty) (k2 := k2) hT hz hzl hU hsz (hS.at_ hk) hone hN hb hN2
  refine WL.wv (fun ρ hρ => ?_) hd (K v' w' hf (hS.upd hk hf hrw hbl))
  simp [execOp, resolve, invoke, builtin, hρ _ _ hx, hρ _ _ hy, hrun]
end
end Go.Eng
namespace Go.Eng
open Go Go.RowKit
section
variable {w w' w0 w1 : World} {M : Nat → Prop} {hp hp1 : List Ent}
def Ours (hp : List Ent) (b : Nat) : Prop := ∃ e ∈ hp, e.block = some b
/-- From here on anew: what is ours may be turned. -/
theorem ST.base (h : ST w0 M w hp) : ST w (Ours hp) w hp :=
  ⟨.refl _, h.ok, fun e he _ hb => .inr ⟨e, he, hb⟩, h.sep⟩
theorem ST.rebase (h : ST w0 M w1 hp1) (k : ST w1 (Ours hp1) w hp) : ST w0 M w hp := by
  refine ⟨h.fr.trans k.fr (fun i hi hN => ?_), k.ok, fun e he b hb => ?_, k.sep⟩
  · obtain ⟨e, he, hb⟩ := hN
    rcases h.own e he i hb with h1 | h1
    · omega
    · exact h1
  · rcases k.own e he b hb with h1 | ⟨e', he', hb'⟩
    · exact .inl (Nat.le_trans h.fr.size h1)
    · exact h.own e' he' b hb'
/-- Byte slices in cells, apart from blocks that may turn. -/
def Els (w : World) (N : Nat → Prop) (cells : List Value) (ls : List (List UInt8)) : Prop :=
  cells.length = ls.length ∧ ∀ i (hi : i < cells.length) (hj : i < ls.length), Rs w cells[i] 1 (bs8 ls[i]) ∧ (0 < ls[i].length → ∀ b, cells[i].ownBlock = some b → ¬ N b)
theorem Els.nil {N : Nat → Prop} : Els w N [] [] := ⟨rfl, fun i hi => by simp at hi⟩
theorem Els.rsL {N : Nat → Prop} {u : Value} {cells : List Value} {ls : List (List UInt8)} (h : Els w N cells ls) (hu : Rs w u 1 cells) : RsL w u ls := ⟨cells, hu, h.1, fun i hi hj => (h.2 i hi hj).1⟩
theorem Els.one {N : Nat → Prop} {cells : List Value} {ls : List (List UInt8)} (h : Els w N cells ls) : ∀ u ∈ cells, u.oneCell' = true := RsL.one h.1 (fun i hi hj => (h.2 i hi hj).1)
theorem Els.step {cells : List Value} {ls : List (List UInt8)} (h : Els w (Ours hp1) cells ls) (k : ST w (Ours hp1) w' hp) : Els w' (Ours hp) cells ls := by
  refine ⟨h.1, fun i hi hj => ⟨(h.2 i hi hj).1.frN k.fr (fun h0 b hb => (h.2 i hi hj).2 (by rwa [bs8_len] at h0) b hb), fun h0 b hb hN => ?_⟩⟩
  obtain ⟨e, he, hbe⟩ := hN
  rcases k.own e he b hbe with h1 | h1
  · have := (h.2 i hi hj).1.ownLt (by rw [bs8_len]; exact h0) hb
    omega
  · exact (h.2 i hi hj).2 h0 b hb h1
theorem Els.no {N : Nat → Prop} {cells : List Value} {ls : List (List UInt8)} (h : Els w N cells ls) (hf : Fr No w w') : Els w' N cells ls :=
  ⟨h.1, fun i hi hj => ⟨(h.2 i hi hj).1.no hf, (h.2 i hi hj).2⟩⟩
theorem Els.add {N : Nat → Prop} {cells : List Value} {ls : List (List UInt8)} {u : Value} {l : List UInt8} (h : Els w N cells ls) (hu : Rs w u 1 (bs8 l)) (ha : 0 < l.length → ∀ b, u.ownBlock = some b → ¬ N b) : Els w N (cells ++ [u]) (ls ++ [l]) := by
  refine ⟨by simp [h.1], fun i hi hj => ?_⟩
  by_cases h1 : i < cells.length
  · have h2 : i < ls.length := by rw [← h.1]; exact h1
    rw [List.getElem_append_left h1]
    simp only [List.getElem_append_left h2]
    exact h.2 i h1 h2
  · have e1 : i = cells.length := by simp at hi; omega
    subst e1
    have hl := h.1
    have e2 : (cells ++ [u])[cells.length]'hi = u := by simp
    have e3 : (ls ++ [l])[cells.length]'hj = l := by simp [hl]
    rw [e2, e3]
    exact ⟨hu, ha⟩
/-- What was there at the beginning is none of ours. -/
theorem ST.notOurs {v : Value} {sz : Nat} {xs : List Value} (h : ST w0 No w hp) (hv : Rs w0 v sz xs) (h0 : 0 < xs.length) {b : Nat} (hb : v.ownBlock = some b) : ¬ Ours hp b := by
  rintro ⟨e, he, hbe⟩
  have := hv.ownLt h0 hb
  rcases h.own e he b hbe with h1 | h1
  · omega
  · exact h1
end
end Go.Eng
namespace Go.Eng
open Go Go.RowKit
theorem perm_top {α : Type} : ∀ (l : List α) (k : Nat) (e : α), l[k]? = some e → (e :: l.eraseIdx k).Perm l
  | [], k, e, h => by simp at h
  | x :: l, 0, e, h => by simp at h; subst h; simp
  | x :: l, k + 1, e, h => by
    simp only [List.getElem?_cons_succ] at h
    rw [List.eraseIdx_cons_succ]
    exact (List.Perm.swap x e _).trans ((perm_top l k e h).cons x)
section
variable {w w' w0 : World} {M : Nat → Prop} {hp es es' fr : List Ent}
theorem ST.ro_ {k sz : Nat} {v : Value} {xs : List Value} (h : ST w0 M w hp) (hk : hp[k]? = some (.ro v sz xs)) : Rs w v sz xs := (h.at_ hk).1
/-- The entries in another order. -/
theorem ST.perm (h : ST w0 M w hp) (p : hp.Perm es) : ST w0 M w es :=
  ⟨h.fr, fun e he => h.ok e (p.mem_iff.2 he), fun e he => h.own e (p.mem_iff.2 he), (p.pairwise_iff (fun h b h1 h2 => h b h2 h1)).1 h.sep⟩
/-- An entry, put ahead. -/
theorem ST.top {e : Ent} (h : ST w0 M w hp) (k : Nat) (hk : hp[k]? = some e) : ST w0 M w (e :: hp.eraseIdx k) := h.perm (perm_top hp k e hk).symm
/-- The part of memory that a call is given. -/
theorem ST.part (h : ST w0 M w (fr ++ es)) : ST w (Ours es) w es :=
  ⟨.refl _, fun e he => h.ok e (by simp [he]), fun e he _ hb => .inr ⟨e, he, hb⟩, (List.pairwise_append.1 h.sep).2.1⟩
/-- A call turns the part that it was given; all else stays. -/
theorem ST.call (h : ST w0 M w (fr ++ es)) (k : ST w (Ours es) w' es') : ST w0 M w' (fr ++ es') := by
  have hpw := List.pairwise_append.1 h.sep
  refine ⟨h.fr.trans k.fr (fun i hi hN => ?_), fun e he => ?_, fun e he b hb => ?_, List.pairwise_append.2 ⟨hpw.1, k.sep, fun e he f hf b hb hb' => ?_⟩⟩
  · obtain ⟨e, he, hb⟩ := hN
    rcases h.own e (by simp [he]) i hb with h1 | h1
    · omega
    · exact h1
  · rcases List.mem_append.1 he with he | he
    · refine Ent.fr (h.ok e (by simp [he])) k.fr (fun b hb hN => ?_)
      obtain ⟨f, hf, hb'⟩ := hN
      exact hpw.2.2 e he f hf b hb hb'
    · exact k.ok e he
  · rcases List.mem_append.1 he with he | he
    · exact h.own e (by simp [he]) b hb
    · rcases k.own e he b hb with h1 | ⟨f, hf, hb'⟩
      · exact .inl (Nat.le_trans h.fr.size h1)
      · exact h.own f (by simp [hf]) b hb'
  · have hlt := Ent.lt (h.ok e (by simp [he])) hb
    rcases k.own f hf b hb' with h1 | ⟨g, hg, hb2⟩
    · omega
    · exact hpw.2.2 e he g hg b hb hb2
/-- What a piece of the way made, beside what was there. -/
theorem ST.join (h : ST w0 M w hp) (k : ST w No w' es') : ST w0 M w' (es' ++ hp) := by
  have h1 : ST w0 M w (hp ++ []) := by rw [List.append_nil]; exact h
  have k1 : ST w (Ours []) w' es' := ⟨k.fr.mono (fun _ _ h => h.elim), k.ok, fun e he b hb => (k.own e he b hb).imp id (fun h => h.elim), k.sep⟩
  exact (h1.call k1).perm List.perm_append_comm
/-- A row that is only read from here on. -/
theorem ST.toRo {k sz : Nat} {t : TypeId} {v : Value} {xs : List Value} (h : ST w0 M w hp) (hk : hp[k]? = some (.row v t sz xs)) : ST w0 M w (hp.set k (.ro v sz xs)) :=
  h.upd hk (.refl _) ⟨(h.rw_ hk).rs, fun _ hb => (h.rw_ hk).lt hb⟩ (fun _ hb => .inl hb)
theorem ST.blkRo {k b m sz : Nat} {t : TypeId} {cs : List Value} (h : ST w0 M w hp) (hk : hp[k]? = some (.blk b t cs)) (hl : cs.length = m * sz) (hm : m ≤ maxLen) : ST w0 M w (hp.set k (.ro (.slice (some ⟨b, 0, none⟩) m m) sz cs)) := by
  have h1 := h.toRow hk hl hm
  have h2 := h1.toRo (k := k) (by rw [List.getElem?_set_self (getElem?_lt hk)])
  rwa [List.set_set] at h2
/-- Another cut of what is read. -/
theorem ST.reRo {k sz sz' : Nat} {v v' : Value} {xs xs' : List Value} (h : ST w0 M w hp) (hk : hp[k]? = some (.ro v sz xs)) (hr : Rs w v' sz' xs') (hb : ∀ b, v'.ownBlock = some b → v.ownBlock = some b) : ST w0 M w (hp.set k (.ro v' sz' xs')) :=
  h.upd hk (.refl _) ⟨hr, fun b hb' => (h.at_ hk).2 b (hb b hb')⟩ (fun b hb' => .inl (hb b hb'))
theorem ST.addRo {v : Value} {sz : Nat} {xs : List Value} (h : ST w0 M w hp) (hf : Fr No w w') (hr : Rs w' v sz xs) (hb : ∀ b, v.ownBlock = some b → w.heap.size ≤ b ∧ b < w'.heap.size) : ST w0 M w' (.ro v sz xs :: hp) :=
  h.add hf ⟨hr, fun b hb' => (hb b hb').2⟩ (fun b hb' => (hb b hb').1)
theorem cut_own {A : Option Addr} {m c x y z : Nat} {p : Prop} [Decidable p] {b : Nat} (h : (Value.slice (if p then A else A.map (·.add x)) m c).ownBlock = some b) : (Value.slice A y z).ownBlock = some b := by
  cases A with
  | none => simp [Value.ownBlock] at h
  | some a =>
    split at h
    · simpa [Value.ownBlock] using h
    · simp only [Option.map, Value.ownBlock, Addr.add] at h ⊢
      split at h <;> simpa using h
section
variable {P : Program} {n : Md} {ops : Array Oper} {Q : QT} {rest : List Oper} {l : Env} {d : Nat}
theorem pv_extL {P : Program} {l : Env} {d i : Nat} {ty : TypeId} {pos : String} {af : Array Edge} {v : Value} {x : Operand} {vs : List Value} (hx : ev l x = some (.tuple vs.toArray)) (hv : vs[i]? = some v) : PV P l ⟨some d, .extract x i, ty, pos, af, none⟩ v := pv_extract hx (by simpa using hv)
theorem yielded_undef {a : Act} (ha : Ag n a l) {g : Oper} {j t : Nat} (hj : ops[j]? = some g) (ht : g.dst = some t) (hv : lk l t = some undef) : yielded ops a.tmps j = none := by
  simp [yielded, hj, ht, ha.at_ t _ hv, undef]
/-- A guarded operation whose guard was itself left out. -/
theorem WL.guardU {o g : Oper} {j t d : Nat} {b : Bool} (hg : o.guard = some (j, b)) (hj : ops[j]? = some g) (ht : g.dst = some t) (hv : lk l t = some undef) (ho : o.dst = some d) (hd : Nat.blt d n.tmps = true)
    (k : WL P n ops Q rest ((d, undef) :: l) w) : WL P n ops Q (o :: rest) l w := fun a ha => by
  have hw : Region.wanted o (yielded ops a.tmps) = false := by simp [Region.wanted, hg, yielded_undef ha hj ht hv]
  unfold wpL
  rw [if_neg (by simp [hw]), ho]
  exact k _ (ha.put undef (Nat.le_of_ble_eq_true hd))
theorem WS.guardU {K : Act → Prop} {o g : Oper} {j t d : Nat} {b : Bool} (hg : o.guard = some (j, b)) (hj : ops[j]? = some g) (ht : g.dst = some t) (hv : lk l t = some undef) (ho : o.dst = some d) (hd : Nat.blt d n.tmps = true)
    (k : WS P n ops w K rest ((d, undef) :: l)) : WS P n ops w K (o :: rest) l := fun a ha => by
  have hw : Region.wanted o (yielded ops a.tmps) = false := by simp [Region.wanted, hg, yielded_undef ha hj ht hv]
  unfold wpStill
  rw [if_neg (by simp [hw]), ho]
  exact k _ (ha.put undef (Nat.le_of_ble_eq_true hd))
end
theorem Ours.front {b : Nat} (h : Ours es b) : Ours (fr ++ es) b := by
  obtain ⟨e, he, hb⟩ := h
  exact ⟨e, by simp [he], hb⟩
end
end Go.Eng
namespace Go.Eng
open Go Go.RowKit Go.ChangeShapes Go.WideShapes
theorem flat_at {α : Type} {n : Nat} (hn : 0 < n) : ∀ (css : List (List α)) (_ : ∀ c ∈ css, c.length = n) (j : Nat), css.flatten[j]? = (css[j / n]?).bind (fun c => c[j % n]?)
  | [], _, j => by simp
  | c :: css, h, j => by
    have hc : c.length = n := h c (by simp)
    rw [List.flatten_cons]
    by_cases hj : j < n
    · rw [List.getElem?_append_left (by omega), Nat.div_eq_of_lt hj, Nat.mod_eq_of_lt hj]; simp
    · obtain ⟨i, rfl⟩ : ∃ i, j = i + n := ⟨j - n, by omega⟩
      rw [List.getElem?_append_right (by omega), hc, Nat.add_sub_cancel, flat_at hn css (fun c hc => h c (by simp [hc])), Nat.add_div_right _ hn, Nat.add_mod_right]
      simp
theorem flat_len {α : Type} {n : Nat} : ∀ (css : List (List α)) (_ : ∀ c ∈ css, c.length = n), css.flatten.length = css.length * n
  | [], _ => by simp
  | c :: css, h => by
    rw [List.flatten_cons, List.length_append, flat_len css (fun c hc => h c (by simp [hc])), h c (by simp), List.length_cons, Nat.succ_mul]; omega
theorem flat_at2 {α : Type} {n : Nat} {css : List (List α)} (h : ∀ c ∈ css, c.length = n) {i r : Nat} (hi : i < css.length) (hr : r < n) : css.flatten[i * n + r]? = (css[i])[r]? := by
  rw [flat_at (by omega) css h, Nat.mul_comm, Nat.mul_add_div (by omega), Nat.div_eq_of_lt hr, Nat.add_zero, List.getElem?_eq_getElem hi, Nat.mul_add_mod, Nat.mod_eq_of_lt hr]
  rfl
theorem flat_cut {α : Type} {n : Nat} : ∀ (css : List (List α)) (_ : ∀ c ∈ css, c.length = n) (a : Nat), css.flatten.drop (a * n) = (css.drop a).flatten
  | [], _, a => by simp
  | c :: css, h, 0 => by simp
  | c :: css, h, a + 1 => by
    rw [List.flatten_cons, Nat.succ_mul, Nat.add_comm, ← List.drop_drop, ← h c (by simp), List.drop_left, h c (by simp), flat_cut css (fun c hc => h c (by simp [hc]))]; simp
theorem flat_take {α : Type} {n : Nat} : ∀ (css : List (List α)) (_ : ∀ c ∈ css, c.length = n) (a : Nat), css.flatten.take (a * n) = (css.take a).flatten
  | [], _, a => by simp
  | c :: css, h, 0 => by simp
  | c :: css, h, a + 1 => by
    rw [List.flatten_cons, Nat.succ_mul, Nat.add_comm, ← h c (by simp), List.take_length_add_append, h c (by simp), flat_take css (fun c hc => h c (by simp [hc]))]; simp
section
variable {H : Type} {enc : TypeId × Value → H} {P : Program} {w : World} {base : Nat}
/-- Elements that came in, each as its cells. -/
theorem elems_of_trod {t e : TypeId} {fuel : Nat} {v : Value} {x : DataW H × List MemPlace} (ht : P.underlying t = some (.slice e)) (hpos : 0 < P.cellsOf e)
    (h : DataW.trod enc P w base (fun _ => true) true fuel t [v] = some x) :
    ∃ css : List (List Value), Rs w v (P.cellsOf e) css.flatten ∧ (∃ A c, v = .slice A css.length c) ∧ ∀ c ∈ css, c.length = P.cellsOf e ∧ ∃ f y, DataW.trod enc P w base (fun _ => true) true f e c = some y := by
  rcases DataW.trod_slice ht h with ⟨hcs, _⟩ | ⟨a, len, cap, elems, rest, n, _, hcs, _, _, hl, hm, hel, hx, _, _⟩
  · injection hcs with hcs; subst hcs
    exact ⟨[], ⟨none, 0, 0, rfl, Nat.le_refl _, by simp [maxLen], by simp, .inl rfl⟩, ⟨none, 0, rfl⟩, by simp⟩
  · injection hcs with hcs; subst hcs
    have hb : ∀ i, i < len → ∃ cs, w.cells? base (a.add (i * P.cellsOf e)) (P.cellsOf e) = some cs ∧ ∃ y, DataW.trod enc P w base (fun _ => true) true n e cs = some y := by
      intro i hi
      have h1 := hx i hi
      rw [List.getElem?_eq_getElem (by omega)] at h1
      obtain ⟨cs, h2, h3⟩ := Option.bind_eq_some_iff.1 h1
      exact ⟨cs, h2, _, h3⟩
    obtain ⟨f, hf⟩ := Go.Deep.choose_lt (α := List Value) hb
    have hlen : ∀ c ∈ (List.range len).map f, c.length = P.cellsOf e := by
      intro c hc
      obtain ⟨i, hi, rfl⟩ := List.mem_map.1 hc
      exact (World.cells?_some (hf i (List.mem_range.1 hi)).1).2.1
    refine ⟨(List.range len).map f, ⟨some a, len, cap, rfl, hl, hm, by rw [flat_len _ hlen]; simp, ?_⟩, ⟨some a, cap, by simp⟩, fun c hc => ⟨hlen c hc, ?_⟩⟩
    · by_cases h0 : 0 < len
      · obtain ⟨b, off, spot⟩ := a
        have hc0 : ∀ i r, i < len → r < P.cellsOf e → w.cell? (((⟨b, off, spot⟩ : Addr).add (i * P.cellsOf e)).add r) = (f i)[r]? := fun i r hi hr => (World.cells?_some (hf i hi).1).2.2 r hr
        have hspot : spot = none := by
          have h1 := hc0 0 0 h0 hpos
          have h2 : (f 0).length = P.cellsOf e := (World.cells?_some (hf 0 h0).1).2.1
          rw [List.getElem?_eq_getElem (by omega)] at h1
          simpa [Addr.add] using World.cell?_spot h1
        subst hspot
        refine .inr ⟨b, off, rfl, fun j u hu => ?_⟩
        have hj := getElem?_lt hu
        rw [flat_len _ hlen] at hj
        simp only [List.length_map, List.length_range] at hj
        have hjd : j / P.cellsOf e < len := (Nat.div_lt_iff_lt_mul hpos).2 hj
        have hjm : j % P.cellsOf e < P.cellsOf e := Nat.mod_lt _ hpos
        rw [flat_at hpos _ hlen, List.getElem?_map, List.getElem?_range hjd] at hu
        have h1 := hc0 _ _ hjd hjm
        rw [add0, add0, Nat.add_assoc, Nat.mul_comm, Nat.div_add_mod] at h1
        rw [h1]; exact hu
      · exact .inl (by rw [show len = 0 from by omega]; simp)
    · obtain ⟨i, hi, rfl⟩ := List.mem_map.1 hc
      obtain ⟨y, hy⟩ := (hf i (List.mem_range.1 hi)).2
      exact ⟨n, y, hy⟩
theorem fld_of_trod {t : TypeId} {fs : Array Field} {fuel : Nat} {cs : List Value} {x : DataW H × List MemPlace} (ht : P.underlying t = some (.struct fs)) (h : DataW.trod enc P w base (fun _ => true) true fuel t cs = some x) :
    cs.length = P.cellsOf t ∧ ∀ (i : Nat) (f : Field), fs[i]? = some f → ∃ m y, DataW.trod enc P w base (fun _ => true) true m f.type ((cs.drop f.offset).take (P.cellsOf f.type)) = some y := by
  obtain ⟨xs, n, _, _, hl, hx, hf⟩ := DataW.trod_struct ht h
  refine ⟨hl, fun i f hi => ⟨n, ?_⟩⟩
  have hil : i < xs.length := by
    rw [hx]
    exact (Array.getElem?_eq_some_iff.1 hi).1
  exact ⟨xs[i], by rw [hf i f hi, List.getElem?_eq_getElem hil]⟩
theorem bs8_of : ∀ {cs : List Value}, (∀ v ∈ cs, ∃ b, v = b8 b) → ∃ bl, cs = bs8 bl
  | [], _ => ⟨[], rfl⟩
  | v :: cs, h => by
    obtain ⟨b, rfl⟩ := h v (by simp)
    obtain ⟨bl, rfl⟩ := bs8_of (cs := cs) fun u hu => h u (by simp [hu])
    exact ⟨b :: bl, rfl⟩
/-- An array of bytes that came in. -/
theorem arr8_of_trod {t e : TypeId} {n fuel : Nat} {cs : List Value} {x : DataW H × List MemPlace} (ht : P.underlying t = some (.array n e)) (he : P.underlying e = some (.int .u8)) (hc : P.cellsOf e = 1) (hn : P.cellsOf t = n)
    (h : DataW.trod enc P w base (fun _ => true) true fuel t cs = some x) : ∃ bl : List UInt8, bl.length = n ∧ cs = bs8 bl := by
  obtain ⟨xs, m, _, _, hl, hx, hf⟩ := DataW.trod_array ht h
  rw [hn] at hl
  obtain ⟨bl, rfl⟩ := bs8_of (cs := cs) fun v hv => by
    obtain ⟨i, hi, rfl⟩ := List.getElem_of_mem hv
    have h1 := hf i (by omega)
    rw [hc, Nat.mul_one, List.getElem?_eq_getElem (by omega)] at h1
    obtain ⟨k, h2, _, h3⟩ := DataW.trod_int he h1
    rw [List.drop_eq_getElem_cons hi, List.take_succ_cons, List.take_zero] at h2
    injection h2 with h2
    exact ⟨_, by rw [h2, byteOf h3]⟩
  exact ⟨bl, by simpa [bs8_len] using hl, rfl⟩
theorem okWide_agg {r : Reach} {t : TypeId} {u : TypeDesc} {v : Value} (ht : P.underlying t = some u) (hu : (∃ n e, u = .array n e) ∨ ∃ fs, u = .struct fs) (h : Value.okWide P w r base t v) : ∃ cs : List Value, v = .agg cs.toArray := by
  unfold Value.okWide at h
  rw [ht] at h
  rcases hu with ⟨n, e, rfl⟩ | ⟨fs, rfl⟩
  · obtain ⟨cs, rfl, _⟩ := h; exact ⟨cs.toList, by simp⟩
  · obtain ⟨cs, rfl, _⟩ := h; exact ⟨cs.toList, by simp⟩
end
end Go.Eng
namespace Go.Eng
open Go Go.RowKit
/-- append onto a row of one's own, of a string's bytes. -/
theorem run_appendStr {P : Program} {w : World} {T U ty e : TypeId} {by_ N : Nat} {v : Value} {str : ByteArray} {xs : List Value} (hT : slT P T = some (e, 1, by_)) (hz : (zeroT P e).map List.length = some 1) (hU : P.underlying U = some .string)
    (hv : Rw w v e 1 xs) (hN : xs.length + str.size ≤ N) (hb : N * by_ ≤ 140737488355328) (hN2 : N ≤ maxLen) :
    ∃ v' w', (Builtin.append_ #[T, U] ty #[v, .string str]).run P w = .ok v' w' ∧ Fr (fun b => v.ownBlock = some b) w w' ∧ Rw w' v' e 1 (xs ++ bs8 str.data.toList) ∧ (∀ b, v'.ownBlock = some b → v.ownBlock = some b ∨ w.heap.size ≤ b) ∧ Rs w' v 1 xs := by
  have hvr := hv.rs
  obtain ⟨ys, hys⟩ : ∃ ys, ys = bs8 str.data.toList := ⟨_, rfl⟩
  rw [← hys]
  obtain ⟨m, hm0⟩ : ∃ m, m = str.size := ⟨_, rfl⟩
  have hl1 : ys.length = m := by rw [hys, bs8_len, hm0]; rfl
  have h1 : ∀ u ∈ ys, u.oneCell' = true := by rw [hys]; exact bs8_one
  have hfs : ∀ w' : World, (Builtin.firstCells 1 m (.string str)).run P w' = .ok ys.toArray w' := by
    intro w'
    simp only [Builtin.firstCells, Sem.run_pure]
    congr 1
    apply Array.ext'
    rw [hys, hm0]
    have : str.extract 0 str.size = str := by
      apply ByteArray.ext
      simp
    rw [this]
    simp [bs8]
  have hlo : ∀ w' : World, (Builtin.lenOf (.string str)).run P w' = .ok m w' := by intro w'; rw [hm0]; rfl
  rw [← hm0] at hN
  unfold slT at hT
  cases hu : P.underlying T with
  | none => simp [hu] at hT
  | some u =>
  cases u <;> simp [hu] at hT
  obtain ⟨i, hi, rfl, hsz1, rfl⟩ := hT
  rename_i e
  have hz' : ∃ z, i.zero = some z ∧ z.cells.size = i.size := by
    unfold zeroT at hz
    rw [hi] at hz
    cases hzz : i.zero with
    | none => simp [hzz] at hz
    | some z => exact ⟨z, rfl, by have h9 := hz; simp [hzz] at h9; omega⟩
  obtain ⟨z, hz1, hz2⟩ := hz'
  rw [← hsz1] at hv hvr hfs
  rw [show (1 : Nat) = i.size from hsz1.symm] at hz
  rw [← hsz1]
  have hsz : 0 < i.size := by omega
  have hl : ys.length = m * i.size := by rw [hsz1, Nat.mul_one]; exact hl1
  replace hN : xs.length + ys.length ≤ N * i.size := by rw [hsz1, Nat.mul_one, hl1]; exact hN
  have hf : ∀ w', Fr No w w' → (Builtin.firstCells i.size m (.string str)).run P w' = .ok ys.toArray w' := fun w' _ => hfs w'
  have zlen : ∀ n, (Builtin.zeroCells z.cells n).toList.length = n * i.size := fun n => by rw [size_zeros, hz2]
  -- a new block
  have grown : ∀ (n old : Nat), xs.length = n * i.size → old < n + m →
      ∀ cap, cap = grownCap w (n + m) old e →
      Fr No w (w.drew.alloc (.cells (xs.toArray ++ ys.toArray ++ Builtin.zeroCells z.cells (cap - (n + m))) e)) ∧
      Rw (w.drew.alloc (.cells (xs.toArray ++ ys.toArray ++ Builtin.zeroCells z.cells (cap - (n + m))) e)) (.slice (some ⟨w.heap.size, 0, none⟩) (n + m) cap) e i.size (xs ++ ys) := by
    intro n old hn ho cap hcap
    have hge : n + m ≤ cap := by rw [hcap]; exact grownCap_ge w (n + m) old e
    have hnm : n + m ≤ N := by
      have : (n + m) * i.size ≤ N * i.size := by rw [Nat.add_mul, ← hn, ← hl]; exact hN
      exact Nat.le_of_mul_le_mul_right this hsz
    have hcm : cap ≤ maxLen := by rw [hcap]; exact grownCap_le_maxLen w (n + m) old e (Nat.le_trans hnm hN2)
    refine ⟨(Fr.drew w).trans (Fr.alloc w.drew _) (fun _ _ h => h), .inr ⟨w.heap.size, n + m, cap, (Builtin.zeroCells z.cells (cap - (n + m))).toList, rfl, ?_, ?_, hge, hcm, ?_⟩⟩
    · have := Bk.new w.drew e (xs ++ ys ++ (Builtin.zeroCells z.cells (cap - (n + m))).toList)
      have e1 : (xs ++ ys ++ (Builtin.zeroCells z.cells (cap - (n + m))).toList).toArray = xs.toArray ++ ys.toArray ++ Builtin.zeroCells z.cells (cap - (n + m)) := by
        apply Array.ext'; simp
      rw [e1] at this
      exact this
    · simp [hn, hl, Nat.add_mul]
    · rw [List.length_append, List.length_append, hn, hl, zlen, ← Nat.add_mul, ← Nat.add_mul]; congr 1; omega
  rcases hv with ⟨rfl, rfl⟩ | ⟨g, n, cap, sp, rfl, hk, hn, hnc, hcm, hlen⟩
  · by_cases h0 : m = 0
    · subst h0
      have hy : ys = [] := List.eq_nil_of_length_eq_zero (by simpa using hl)
      subst hy
      refine ⟨.slice none 0 0, w, ?_, .refl _, .inl ⟨rfl, rfl⟩, by simp [Value.ownBlock], hvr⟩
      have := hf w (.refl _)
      simp [Builtin.append_, run_underlying hu, sizeOf, typeInfo, hi, run_underlying hU, hlo, this]
    · have hm : ¬ m ≤ 0 := by omega
      have hmN : m ≤ N := by
        have : m * i.size ≤ N * i.size := by rw [← hl]; simpa using hN
        exact Nat.le_of_mul_le_mul_right this hsz
      have h63 : ¬ (9223372036854775807 < (m : Int)) := by have := hN2; simp only [maxLen] at this; omega
      have h48 : ¬ (281474976710656 < Builtin.nextslicecap m 0 * i.bytes) := by
        rw [nextslicecap_zero (by omega)]
        have : m * i.bytes ≤ N * i.bytes := Nat.mul_le_mul_right _ hmN
        omega
      have g1 := grown 0 0 (by simp) (by omega) _ rfl
      have hfd := hf w.drew (Fr.drew w)
      refine ⟨.slice (some ⟨w.heap.size, 0, none⟩) (0 + m) (grownCap w (0 + m) 0 e), _, ?_, g1.1.no, g1.2, fun b hb => .inr (by simp [Value.ownBlock] at hb; omega), hvr.no g1.1⟩
      simp [Builtin.append_, run_underlying hu, sizeOf, typeInfo, zeroValue, hi, hz1, run_underlying hU, hlo, h0, h63, h48, Question.forced, run_firstCells_none, hfd, newRow, grownCap]
  · have hnm : n + m ≤ N := by
      have : (n + m) * i.size ≤ N * i.size := by rw [Nat.add_mul, ← hn, ← hl]; exact hN
      exact Nat.le_of_mul_le_mul_right this hsz
    by_cases hroom : n + m ≤ cap
    · have hfw := hf w (.refl _)
      have hfit : n * i.size + ys.length ≤ (xs ++ sp).length := by rw [hlen, hl, ← Nat.add_mul]; exact Nat.mul_le_mul_right _ hroom
      have hst := run_storeCells_bk (P := P) g (n * i.size) e ys 0 (xs ++ sp) w hk (by simpa using hfit) h1
      simp only [Nat.add_zero] at hst
      have e1 : (xs ++ sp).take (n * i.size) ++ ys ++ (xs ++ sp).drop (n * i.size + ys.length) = xs ++ ys ++ sp.drop ys.length := by
          rw [← hn, List.take_left, List.drop_append]
          simp
      have hB : Bk (w.setRow g ((xs ++ sp).take (n * i.size) ++ ys ++ (xs ++ sp).drop (n * i.size + ys.length)).toArray) g e (xs ++ ys ++ sp.drop ys.length) := by
        rw [e1]
        refine Bk.set hk ?_
        simp at hlen hfit ⊢; omega
      refine ⟨.slice (some ⟨g, 0, none⟩) (n + m) cap, w.setRow g ((xs ++ sp).take (n * i.size) ++ ys ++ (xs ++ sp).drop (n * i.size + ys.length)).toArray, ?_, Fr.setRow w g _ rfl, .inr ⟨g, n + m, cap, sp.drop ys.length, rfl, ?_, ?_, hroom, hcm, ?_⟩, fun b hb => .inl hb, ⟨_, _, _, rfl, hnc, hcm, hn, .inr ⟨g, 0, rfl, fun j u hu => by rw [Nat.zero_add, hB.cell, List.append_assoc, List.getElem?_append_left (getElem?_lt hu)]; exact hu⟩⟩⟩
      · simp [Builtin.append_, run_underlying hu, sizeOf, typeInfo, hi, run_underlying hU, hlo, hroom, hfw, add0, hst]
      · exact hB
      · simp [hn, hl, Nat.add_mul]
      · simp at hlen hfit ⊢; omega
    · have hroom' : ¬ n + m ≤ cap := hroom
      have h63 : ¬ (9223372036854775807 < ((n : Int) + (m : Int))) := by have := hN2; simp only [maxLen] at this; omega
      have h48 : ¬ (281474976710656 < Builtin.nextslicecap (n + m) cap * i.bytes) := by
        have := growslice_fits (bytes := i.bytes) (old := cap) (need := n + m) (by omega) (by
          have : (n + m) * i.bytes ≤ N * i.bytes := Nat.mul_le_mul_right _ hnm
          omega)
        omega
      have g1 := grown n cap hn (by omega) _ rfl
      have hfd := hf w.drew (Fr.drew w)
      have hold : (Builtin.firstCells i.size n (.slice (some ⟨g, 0, none⟩) n cap)).run P w.drew = .ok xs.toArray w.drew :=
        run_firstCells_some w.drew i.size n _ n cap xs hn (fun j u hu => by
          rw [add0, World.cell?_drew, hk.cell, Nat.zero_add, List.getElem?_append_left (getElem?_lt hu)]; exact hu)
      refine ⟨.slice (some ⟨w.heap.size, 0, none⟩) (n + m) (grownCap w (n + m) cap e), _, ?_, g1.1.no, g1.2, fun b hb => .inr (by simp [Value.ownBlock] at hb; omega), hvr.no g1.1⟩
      simp [Builtin.append_, run_underlying hu, sizeOf, typeInfo, zeroValue, hi, hz1, run_underlying hU, hlo, hroom', h63, h48, Question.forced, hfd, hold, newRow, grownCap]
      congr 2
      apply Array.ext'
      simp [List.append_assoc]
section
variable {P : Program} {n : Md} {ops : Array Oper} {Q : QT} {rest : List Oper} {l : Env} {w w0 : World} {M : Nat → Prop} {hp : List Ent} {d : Nat} {ty : TypeId} {pos : String} {af : Array Edge} {v : Value} {T U : TypeId} {x y : Operand}
theorem WL.appendStr {k e by_ N : Nat} {str : ByteArray} {xs : List Value} (hS : ST w0 M w hp) (hT : slT P T = some (e, 1, by_)) (hz : (zeroT P e).map List.length = some 1) (hU : P.underlying U = some .string)
    (hx : ev l x = some v) (hk : hp[k]? = some (.row v e 1 xs)) (hy : ev l y = some (.string str)) (hN : xs.length + str.size ≤ N) (hb : N * by_ ≤ 140737488355328) (hN2 : N ≤ maxLen) (hd : Nat.blt d n.tmps = true)
    (K : ∀ v' w', Fr (fun b => v.ownBlock = some b) w w' → ST w0 M w' (hp.set k (.row v' e 1 (xs ++ bs8 str.data.toList))) → WL P n ops Q rest ((d, v') :: l) w') :
    WL P n ops Q (⟨some d, .call { callee := .builtin .append, args := #[x, y], argTypes := #[T, U] }, ty, pos, af, none⟩ :: rest) l w := by
  obtain ⟨v', w', hrun, hf, hrw, hbl, _⟩ := run_appendStr (P := P) (ty := ty) hT hz hU (hS.at_ hk) hN hb hN2
  refine WL.wv (fun ρ hρ => ?_) hd (K v' w' hf (hS.upd hk hf hrw hbl))
  simp [execOp, resolve, invoke, builtin, hρ _ _ hx, hρ _ _ hy, hrun]
/-- A slice taken as the address of an array. -/
theorem pv_s2ap {A : Option Addr} {m c N sz : Nat} (hT : arrT P T = some (N, sz)) (hx : ev l x = some (.slice A m c)) (hm : N ≤ m) : PV P l ⟨some d, .sliceToArrayPointer T x, ty, pos, af, none⟩ (.pointer A) := ⟨rfl, fun ρ hρ w => by
  unfold arrT at hT
  cases hu : P.underlying T with
  | none => simp [hu] at hT
  | some u =>
    cases u <;> simp [hu] at hT
    obtain ⟨q, hq, rfl, rfl⟩ := hT
    simp [execOp, hρ _ _ hx, Instr.arrayAt, run_underlying hu, Nat.not_lt.2 hm]⟩
/-- A string, ranged over. -/
theorem WL.rangeStr {s : ByteArray} (hS : ST w0 M w hp) (hT : P.underlying T = some .string) (hx : ev l x = some (.string s)) (hd : Nat.blt d n.tmps = true)
    (K : ∀ b w', w0.heap.size ≤ b → ST w0 M w' (.obj b (.stringIter s 0) :: hp) → WL P n ops Q rest ((d, .pointer (some ⟨b, 0, none⟩)) :: l) w') :
    WL P n ops Q (⟨some d, .range T x, ty, pos, af, none⟩ :: rest) l w := by
  refine WL.wv (fun ρ hρ => ?_) hd (K w.heap.size (w.alloc (.stringIter s 0)) hS.fr.size (hS.add (.alloc w _) (heap_alloc_new w _) (fun b hb => by simp [Ent.block] at hb; omega)))
  simp only [execOp, hρ _ _ hx, Instr.range, Sem.run_bind, run_underlying hT]
  simp
theorem ST.putObj {k b : Nat} {o o' : Obj} (hS : ST w0 M w hp) (hk : hp[k]? = some (.obj b o)) : ST w0 M (w.putObj b o') (hp.set k (.obj b o')) := by
  have hb : w.heap[b]? = some o := hS.at_ hk
  refine hS.upd hk (w' := w.putObj b o') ⟨rfl, rfl, rfl, by simp, fun i _ hi => World.putObj_heap_other (fun e => hi (by rw [e]; rfl))⟩ (World.putObj_heap_same (Array.getElem?_eq_some_iff.1 hb).1) (fun _ h => .inl h)
theorem WL.nextStr {k b p : Nat} {s : ByteArray} (hS : ST w0 M w hp) (hk : hp[k]? = some (.obj b (.stringIter s p))) (hx : ev l x = some (.pointer (some ⟨b, 0, none⟩))) (hps : p < s.size) (hd : Nat.blt d n.tmps = true)
    (K : ∀ w', ST w0 M w' (hp.set k (.obj b (.stringIter s (p + (Utf8.decode s p).2)))) → WL P n ops Q rest ((d, .tuple #[.bool true, .int .i64 (p : Int), .int .i32 ((Utf8.decode s p).1 : Int)]) :: l) w') :
    WL P n ops Q (⟨some d, .next x true, ty, pos, af, none⟩ :: rest) l w := by
  have hb : w.heap[b]? = some (.stringIter s p) := hS.at_ hk
  refine WL.wv (fun ρ hρ => ?_) hd (K (w.putObj b (.stringIter s (p + (Utf8.decode s p).2))) (hS.putObj hk))
  simp only [execOp, hρ _ _ hx, Instr.next, getObj, setObj, Sem.run_bind, Sem.run, hb, Result.andThen, hps, if_true]
  simp [goInt, World.putObj]
theorem WL.nextEnd {k b p : Nat} {s : ByteArray} (hS : ST w0 M w hp) (hk : hp[k]? = some (.obj b (.stringIter s p))) (hx : ev l x = some (.pointer (some ⟨b, 0, none⟩))) (hps : ¬ p < s.size) (hd : Nat.blt d n.tmps = true)
    (K : WL P n ops Q rest ((d, .tuple #[.bool false]) :: l) w) :
    WL P n ops Q (⟨some d, .next x true, ty, pos, af, none⟩ :: rest) l w := by
  have hb : w.heap[b]? = some (.stringIter s p) := hS.at_ hk
  refine WL.wv (w' := w) (fun ρ hρ => ?_) hd K
  simp only [execOp, hρ _ _ hx, Instr.next, getObj, setObj, Sem.run_bind, Sem.run, hb, Result.andThen, hps, if_false]
  rfl
end
end Go.Eng
namespace Go.Eng
open Go Go.RowKit
/-- append, where only the length of what comes is asked. -/
theorem run_appendL {P : Program} {w : World} {T ty e : TypeId} {sz by_ N : Nat} {v x : Value} {xs ys : List Value} (hT : slT P T = some (e, sz, by_)) (hz : (zeroT P e).map List.length = some sz) (hsz : 0 < sz)
    (hv : Rw w v e sz xs) (hx : Rs w x sz ys) (h1 : ∀ u ∈ ys, u.oneCell' = true) (hN : xs.length + ys.length ≤ N * sz) (hb : N * by_ ≤ 140737488355328) (hN2 : N ≤ 9223372036854775807) {A0 : Option Addr} {n0 c0 m0 c1 : Nat} {A1 : Option Addr} (hv0 : v = .slice A0 n0 c0) (hx0 : x = .slice A1 m0 c1) :
    ∃ A' c' w', (Builtin.append_ #[T, T] ty #[v, x]).run P w = .ok (.slice A' (n0 + m0) c') w' ∧ Fr (fun b => v.ownBlock = some b) w w' := by
  unfold slT at hT
  cases hu : P.underlying T with
  | none => simp [hu] at hT
  | some u =>
  cases u <;> simp [hu] at hT
  obtain ⟨i, hi, rfl, rfl, rfl⟩ := hT
  rename_i e
  have hz' : ∃ z, i.zero = some z ∧ z.cells.size = i.size := by
    unfold zeroT at hz
    rw [hi] at hz
    cases hzz : i.zero with
    | none => simp [hzz] at hz
    | some z => exact ⟨z, rfl, by simpa [hzz] using hz⟩
  obtain ⟨z, hz1, hz2⟩ := hz'
  obtain ⟨A, m, c, hxe, hl, _⟩ := run_first (P := P) hx
  subst hxe
  injection hx0 with e1 e2 e3; subst e1; subst e2; subst e3
  have hf : ∀ w', Fr No w w' → (Builtin.firstCells i.size m (.slice A m c)).run P w' = .ok ys.toArray w' := by
    intro w' hw
    obtain ⟨A', m', c', he, hl', hr⟩ := run_first (P := P) (hx.no hw)
    injection he with e1 e2 e3; subst e1; subst e2; subst e3
    exact hr
  have zlen : ∀ n, (Builtin.zeroCells z.cells n).toList.length = n * i.size := fun n => by rw [size_zeros, hz2]
  -- a new block
  have grown : ∀ (n old : Nat), ∀ cap, cap = grownCap w (n + m) old e →
      Fr No w (w.drew.alloc (.cells (xs.toArray ++ ys.toArray ++ Builtin.zeroCells z.cells (cap - (n + m))) e)) := fun n old cap hcap =>
    (Fr.drew w).trans (Fr.alloc w.drew _) (fun _ _ h => h)
  rcases hv with ⟨hve, rfl⟩ | ⟨g, n, cap, sp, hve, hk, hn, hnc, hcm, hlen⟩
  · subst hve
    injection hv0 with e1 e2 e3; subst e1; subst e2; subst e3
    by_cases h0 : m = 0
    · subst h0
      have hy : ys = [] := List.eq_nil_of_length_eq_zero (by simpa using hl)
      subst hy
      refine ⟨none, 0, w, ?_, .refl _⟩
      have := hf w (.refl _)
      simp [Builtin.append_, run_underlying hu, sizeOf, typeInfo, hi, Builtin.lenOf, this]
    · have hm : ¬ m ≤ 0 := by omega
      have hmN : m ≤ N := by
        have : m * i.size ≤ N * i.size := by rw [← hl]; simpa using hN
        exact Nat.le_of_mul_le_mul_right this hsz
      have h63 : ¬ (9223372036854775807 < (m : Int)) := by omega
      have h48 : ¬ (281474976710656 < Builtin.nextslicecap m 0 * i.bytes) := by
        rw [nextslicecap_zero (by omega)]
        have : m * i.bytes ≤ N * i.bytes := Nat.mul_le_mul_right _ hmN
        omega
      have g1 := grown 0 0 _ rfl
      have hfd := hf w.drew (Fr.drew w)
      refine ⟨some ⟨w.heap.size, 0, none⟩, grownCap w (0 + m) 0 e, _, ?_, g1.no⟩
      simp [Builtin.append_, run_underlying hu, sizeOf, typeInfo, zeroValue, hi, hz1, Builtin.lenOf, h0, h63, h48, Question.forced, run_firstCells_none, hfd, newRow, grownCap]
  · subst hve
    injection hv0 with e1 e2 e3; subst e1; subst e2; subst e3
    have hnm : n + m ≤ N := by
      have : (n + m) * i.size ≤ N * i.size := by rw [Nat.add_mul, ← hn, ← hl]; exact hN
      exact Nat.le_of_mul_le_mul_right this hsz
    by_cases hroom : n + m ≤ cap
    · have hfw := hf w (.refl _)
      have hfit : n * i.size + ys.length ≤ (xs ++ sp).length := by rw [hlen, hl, ← Nat.add_mul]; exact Nat.mul_le_mul_right _ hroom
      have hst := run_storeCells_bk (P := P) g (n * i.size) e ys 0 (xs ++ sp) w hk (by simpa using hfit) h1
      simp only [Nat.add_zero] at hst
      refine ⟨some ⟨g, 0, none⟩, cap, w.setRow g ((xs ++ sp).take (n * i.size) ++ ys ++ (xs ++ sp).drop (n * i.size + ys.length)).toArray, ?_, Fr.setRow w g _ rfl⟩
      · simp [Builtin.append_, run_underlying hu, sizeOf, typeInfo, hi, Builtin.lenOf, hroom, hfw, add0, hst]
    · have hroom' : ¬ n + m ≤ cap := hroom
      have h63 : ¬ (9223372036854775807 < ((n : Int) + (m : Int))) := by omega
      have h48 : ¬ (281474976710656 < Builtin.nextslicecap (n + m) cap * i.bytes) := by
        have := growslice_fits (bytes := i.bytes) (old := cap) (need := n + m) (by omega) (by
          have : (n + m) * i.bytes ≤ N * i.bytes := Nat.mul_le_mul_right _ hnm
          omega)
        omega
      have g1 := grown n cap _ rfl
      have hfd := hf w.drew (Fr.drew w)
      have hold : (Builtin.firstCells i.size n (.slice (some ⟨g, 0, none⟩) n cap)).run P w.drew = .ok xs.toArray w.drew :=
        run_firstCells_some w.drew i.size n _ n cap xs hn (fun j u hu => by
          rw [add0, World.cell?_drew, hk.cell, Nat.zero_add, List.getElem?_append_left (getElem?_lt hu)]; exact hu)
      refine ⟨some ⟨w.heap.size, 0, none⟩, grownCap w (n + m) cap e, _, ?_, g1.no⟩
      simp [Builtin.append_, run_underlying hu, sizeOf, typeInfo, zeroValue, hi, hz1, Builtin.lenOf, hroom', h63, h48, Question.forced, hfd, hold, newRow, grownCap]
      congr 2
      apply Array.ext'
      simp [List.append_assoc]
section
variable {P : Program} {n : Md} {ops : Array Oper} {Q : QT} {rest : List Oper} {l : Env} {w w0 : World} {M : Nat → Prop} {hp : List Ent} {d : Nat} {ty : TypeId} {pos : String} {af : Array Edge} {T : TypeId} {x y : Operand}
theorem WL.appendL {k e sz by_ N n0 c0 m0 c1 : Nat} {A0 A1 : Option Addr} {xs ys : List Value} (hS : ST w0 M w hp) (hT : slT P T = some (e, sz, by_)) (hz : (zeroT P e).map List.length = some sz) (hsz : 0 < sz)
    (hx : ev l x = some (.slice A0 n0 c0)) (hk : hp[k]? = some (.row (.slice A0 n0 c0) e sz xs)) (hy : ev l y = some (.slice A1 m0 c1)) (hr : Rs w (.slice A1 m0 c1) sz ys) (h1 : ∀ u ∈ ys, u.oneCell' = true) (hN : xs.length + ys.length ≤ N * sz) (hb : N * by_ ≤ 140737488355328) (hN2 : N ≤ 9223372036854775807) (hd : Nat.blt d n.tmps = true)
    (K : ∀ A' c' w', ST w0 M w' [] → WL P n ops Q rest ((d, .slice A' (n0 + m0) c') :: l) w') :
    WL P n ops Q (⟨some d, .call { callee := .builtin .append, args := #[x, y], argTypes := #[T, T] }, ty, pos, af, none⟩ :: rest) l w := by
  obtain ⟨A', c', w', hrun, hf⟩ := run_appendL (P := P) (ty := ty) hT hz hsz (hS.at_ hk) hr h1 hN hb hN2 rfl rfl
  refine WL.wv (fun ρ hρ => ?_) hd (K A' c' w' ⟨hS.fr.trans hf (fun i hi hn => ?_), by simp, by simp, .nil⟩)
  · simp [execOp, resolve, invoke, builtin, hρ _ _ hx, hρ _ _ hy, hrun]
  · rcases hS.own' hk (b := i) hn with h2 | h2
    · omega
    · exact h2
theorem pv_cap {A : Option Addr} {m c : Nat} (hT : (slT P T).isSome = true) (hx : ev l x = some (.slice A m c)) :
    PV P l ⟨some d, .call { callee := .builtin .cap, args := #[x], argTypes := #[T] }, ty, pos, af, none⟩ (.int .i64 (c : Int)) := ⟨rfl, fun ρ hρ w => by
  unfold slT at hT
  cases hu : P.underlying T with
  | none => simp [hu] at hT
  | some u =>
    cases u <;> simp [hu] at hT
    simp [execOp, hρ _ _ hx, resolve, invoke, builtin, Builtin.cap_, run_underlying hu, goInt]⟩
/-- How long a slice that comes in may be. -/
theorem reach_of {H : Type} {enc : TypeId × Value → H} {base : Nat} {sp : Nat → Bool} {held : Bool} {ts : List TypeId} {ds : List (DataW H)} {j fuel len cap : Nat} {t e : TypeId} {dd : DataW H} {a : Option Addr} {p : List MemPlace}
    (hsz : (DataW.weightsEach P ts ds).all (· ≤ reachBytes) = true) (ht : ts[j]? = some t) (hd : ds[j]? = some dd) (hu : P.underlying t = some (.slice e)) (hb : P.bytesOf e = 1)
    (hf : DataW.trod enc P w base sp held fuel t [.slice a len cap] = some (dd, p)) : len ≤ 140737488351232 := by
  rcases DataW.trod_slice hu hf with ⟨hcs, _⟩ | ⟨a', len', cap', elems, rest, n', _, hcs, hx, _, _, _, hel, _⟩
  · injection hcs with hcs; injection hcs with _ h2 _; omega
  · injection hcs with hcs; injection hcs with _ h2 _
    injection hx with h3 _
    have := sized_slice hsz ht (hd.trans (congrArg some h3)) hu
    rw [hb, List.length_map, List.length_map] at this
    simp only [reachBytes] at this
    omega
end
end Go.Eng
namespace Go.Eng
open Go Go.RowKit
theorem bs8_rep (n : Nat) : List.replicate n (b8 0) = bs8 (List.replicate n 0) := by simp [bs8]
/-- Keys, as cells. -/
def kc (ks : List (List UInt8)) : List Value := (ks.map bs8).flatten
def K32 (ks : List (List UInt8)) : Prop := ∀ k ∈ ks, k.length = 32
theorem K32.len {ks : List (List UInt8)} (h : K32 ks) : (kc ks).length = ks.length * 32 := by
  rw [kc, flat_len (n := 32) _ (fun c hc => by obtain ⟨k, hk, rfl⟩ := List.mem_map.1 hc; rw [bs8_len]; exact h k hk), List.length_map]
theorem K32.all {ks : List (List UInt8)} (h : K32 ks) : ∀ c ∈ ks.map bs8, c.length = 32 := fun c hc => by
  obtain ⟨k, hk, rfl⟩ := List.mem_map.1 hc; rw [bs8_len]; exact h k hk
theorem K32.take {ks : List (List UInt8)} (h : K32 ks) (n : Nat) : K32 (ks.take n) := fun k hk => h k (List.mem_of_mem_take hk)
theorem K32.drop {ks : List (List UInt8)} (h : K32 ks) (n : Nat) : K32 (ks.drop n) := fun k hk => h k (List.mem_of_mem_drop hk)
theorem K32.app {ks ls : List (List UInt8)} (h : K32 ks) (k : K32 ls) : K32 (ks ++ ls) := fun x hx => by
  rcases List.mem_append.1 hx with h1 | h1
  · exact h x h1
  · exact k x h1
theorem K32.nil : K32 [] := fun _ h => by simp at h
theorem kc_app (ks ls : List (List UInt8)) : kc (ks ++ ls) = kc ks ++ kc ls := by simp [kc]
theorem kc_nil : kc [] = [] := rfl
theorem kc_take {ks : List (List UInt8)} (h : K32 ks) (n : Nat) : (kc ks).take (n * 32) = kc (ks.take n) := by rw [kc, flat_take _ h.all, kc, List.map_take]
theorem kc_drop {ks : List (List UInt8)} (h : K32 ks) (n : Nat) : (kc ks).drop (n * 32) = kc (ks.drop n) := by rw [kc, flat_cut _ h.all, kc, List.map_drop]
theorem kc_one {ks : List (List UInt8)} : ∀ u ∈ kc ks, u.oneCell' = true := by
  intro u hu
  obtain ⟨c, hc, hu⟩ := List.mem_flatten.1 hu
  obtain ⟨k, _, rfl⟩ := List.mem_map.1 hc
  exact bs8_one u hu
/-- The cells of one key among them. -/
theorem kc_at {ks : List (List UInt8)} (h : K32 ks) {i : Nat} (hi : i < ks.length) {j : Nat} {u : Value} (hu : (bs8 ks[i])[j]? = some u) : (kc ks)[i * 32 + j]? = some u := by
  have hj := getElem?_lt hu
  rw [bs8_len, h _ (List.getElem_mem hi)] at hj
  have := flat_at2 (css := ks.map bs8) (n := 32) h.all (i := i) (r := j) (by simpa using hi) hj
  rw [kc, this, List.getElem_map]; exact hu
theorem Rs.nilOf {w : World} {m c sz : Nat} {xs : List Value} (h : Rs w (.slice none m c) sz xs) : xs = [] := by
  obtain ⟨A', m', c', he, _, _, _, h4⟩ := h
  injection he with e1 e2 e3; subst e1; subst e2; subst e3
  rcases h4 with h4 | ⟨b, o, h4, _⟩
  · exact h4
  · cases h4
theorem Rs.cutK {w : World} {A : Option Addr} {m c a b : Nat} {ks : List (List UInt8)} (h : Rs w (.slice A m c) 32 (kc ks)) (hk : K32 ks) (hab : a ≤ b) (hbm : b ≤ m) : Rs w (.slice (if c = a then A else A.map (·.add (a * 32))) (b - a) (c - a)) 32 (kc ((ks.drop a).take (b - a))) := by
  have := h.cut hab hbm
  rwa [kc_drop hk, kc_take (hk.drop a)] at this
theorem Rs.lenK {w : World} {A : Option Addr} {m c : Nat} {ks : List (List UInt8)} (h : Rs w (.slice A m c) 32 (kc ks)) (hk : K32 ks) : ks.length = m ∧ m ≤ c ∧ c ≤ maxLen := by
  have := h.len
  rw [hk.len] at this
  exact ⟨by omega, this.2⟩
/-- A cut of the head, and of the room, too. -/
theorem Rs.cutCap {w : World} {A : Option Addr} {m c b sz : Nat} {xs : List Value} (h : Rs w (.slice A m c) sz xs) (hbm : b ≤ m) : Rs w (.slice (if b = 0 then A else A.map (·.add (0 * sz))) (b - 0) (b - 0)) sz (xs.take (b * sz)) := by
  have hl := h.len
  obtain ⟨A', m', c', he, h1, h2, h3, h4⟩ := h
  injection he with e1 e2 e3; subst e1; subst e2; subst e3
  have hz : b * sz ≤ m * sz := Nat.mul_le_mul_right _ hbm
  refine ⟨_, _, _, rfl, Nat.le_refl _, by omega, by rw [List.length_take, Nat.sub_zero]; omega, ?_⟩
  rcases h4 with rfl | ⟨g, o, rfl, h4⟩
  · exact .inl (by simp)
  · refine .inr ⟨g, o, ?_, fun j u hu => ?_⟩
    · split
      · rfl
      · simp [Addr.add]
    · rw [List.getElem?_take] at hu
      split at hu
      · exact h4 _ u hu
      · simp at hu
theorem Rs.cutCapK {w : World} {A : Option Addr} {m c b : Nat} {ks : List (List UInt8)} (h : Rs w (.slice A m c) 32 (kc ks)) (hk : K32 ks) (hbm : b ≤ m) : Rs w (.slice (if b = 0 then A else A.map (·.add (0 * 32))) (b - 0) (b - 0)) 32 (kc (ks.take b)) := by
  have := h.cutCap hbm
  rwa [kc_take hk] at this
end Go.Eng
namespace Go.Eng
open Go Go.RowKit Go.ChangeShapes Go.WideShapes
section
variable {H : Type} {enc : TypeId × Value → H} {P : Program} {w : World} {base : Nat}
/-- A slice of keys that came in. -/
theorem keys_of_trod {t e u : TypeId} {fuel : Nat} {v : Value} {x : DataW H × List MemPlace} (ht : P.underlying t = some (.slice e)) (he : P.underlying e = some (.array 32 u)) (hu : P.underlying u = some (.int .u8)) (hc : P.cellsOf u = 1) (hn : P.cellsOf e = 32)
    (h : DataW.trod enc P w base (fun _ => true) true fuel t [v] = some x) : ∃ ks, K32 ks ∧ Rs w v 32 (kc ks) ∧ ∃ A c, v = .slice A ks.length c := by
  obtain ⟨css, hR, ⟨A, c, he2⟩, hall⟩ := elems_of_trod ht (by omega) h
  rw [hn] at hR
  have key : ∀ css : List (List Value), (∀ c ∈ css, c.length = P.cellsOf e ∧ ∃ f y, DataW.trod enc P w base (fun _ => true) true f e c = some y) → ∃ ks, K32 ks ∧ css = ks.map bs8 := by
    intro css
    induction css with
    | nil => intro _; exact ⟨[], K32.nil, rfl⟩
    | cons c css ih =>
      intro hall
      obtain ⟨ks, hk, rfl⟩ := ih (fun c hc => hall c (by simp [hc]))
      obtain ⟨_, f, y, hy⟩ := hall c (by simp)
      obtain ⟨bl, hbl, rfl⟩ := arr8_of_trod he hu hc hn hy
      exact ⟨bl :: ks, fun k hk2 => by
        rcases List.mem_cons.1 hk2 with rfl | h2
        · exact hbl
        · exact hk k h2, rfl⟩
  obtain ⟨ks, hk, rfl⟩ := key css hall
  exact ⟨ks, hk, hR, A, c, by rw [he2, List.length_map]⟩
/-- A field of a struct of known cells. -/
theorem fld1_of_trod {t : TypeId} {fs : Array Field} {fuel : Nat} {cs : List Value} {x : DataW H × List MemPlace} (ht : P.underlying t = some (.struct fs)) (h : DataW.trod enc P w base (fun _ => true) true fuel t cs = some x)
    (i : Nat) {f : Field} (hf : fs[i]? = some f) (hc : P.cellsOf f.type = 1) {v : Value} (hv : cs[f.offset]? = some v) : ∃ m y, DataW.trod enc P w base (fun _ => true) true m f.type [v] = some y := by
  obtain ⟨_, h2⟩ := fld_of_trod ht h
  obtain ⟨m, y, h3⟩ := h2 i f hf
  have hl := getElem?_lt hv
  rw [List.getElem?_eq_getElem hl] at hv
  injection hv with hv
  rw [hc, List.drop_eq_getElem_cons hl, List.take_succ_cons, List.take_zero, hv] at h3
  exact ⟨m, y, h3⟩
end
end Go.Eng
namespace Go.Eng
open Go Go.RowKit
-- a region that draws its order, within a round
def noDefer (ops : Array Oper) : Bool := ops.all fun o => match o.op with | .defer _ => false | _ => true
theorem noDefer_at {ops : Array Oper} (h : noDefer ops = true) {i : Nat} {o : Oper} (hi : ops[i]? = some o) : ∀ c, o.op ≠ .defer c := by
  intro c hc
  unfold noDefer at h
  rw [Array.all_eq_true] at h
  obtain ⟨hlt, he⟩ := Array.getElem?_eq_some_iff.1 hi
  have := h i hlt
  rw [he, hc] at this
  simp at this
theorem op_in {P : Program} {ro : Option Nat} {o : Oper} {a : Act} {w : World} {K : Act → World → Prop} {Q : QT} (hd : ∀ c, o.op ≠ .defer c) (h : o.wp P a w K Q) : o.wpIn (Fnc ro) 0 P a w K Q := by
  refine ⟨fun _ _ => trivial, ?_⟩
  rw [show (Fnc ro).round = ro from rfl, Oper.semAt_eq ro _ _ hd]
  unfold Oper.wp at h
  generalize (execOp a.eval o).run P w = r at h ⊢
  cases r with
  | ok x w' =>
    cases x with
    | value v => exact h
    | skip => exact h
    | defer d => exact h
    | enter f args =>
      refine ⟨fun h => by simp [Fnc] at h, ?_⟩
      have h1 : Calls P f args w' _ := h
      have h2 : CallsIn Fence.wide (0 - 1) P f args w' _ := callsIn_wide.2 h1
      exact h2
    | row row args =>
      refine ⟨fun h => by simp [Fnc] at h, fun c cs _ => ?_⟩
      have h1 : Rows P row args w' _ := h
      obtain ⟨v, w2, r, s⟩ := h1 c cs
      exact ⟨v, w2, r, stepsIn_wide.2 s⟩
    | _ => exact h.elim
  | halt x w' => cases x with
    | panic v => exact h
    | _ => exact h.elim
theorem wpAny_in {P : Program} {ro : Option Nat} {md : Region.Mode} {ops : Array Oper} {Q : QT} (hd : noDefer ops = true) (hQ : ∀ a w, ¬ Q .outgrown a w) : ∀ (fuel : Nat) (listed : Array Bool) (a : Act) (w : World), wpAny P md ops Q fuel listed a w → wpAnyIn (Fnc ro) 0 P md ops Q fuel listed a w
  | 0, _, _, _, h => h
  | fuel + 1, listed, a, w, h => by
    refine ⟨h.1, fun i hi => ?_⟩
    have h2 := h.2 i hi
    unfold wpOp at h2
    unfold wpOpIn
    cases ho : ops[i]? with
    | none =>
      simp only [ho] at h2 ⊢
      exact wpAny_in hd hQ fuel _ _ _ h2
    | some o =>
      simp only [ho] at h2 ⊢
      split
      · rename_i hw
        rw [if_pos hw] at h2
        rcases h2 with h2 | ⟨_, a', w', h3⟩
        · exact Oper.wpIn_mono (fun a w => wpAny_in hd hQ fuel _ a w) (op_in (noDefer_at hd ho) h2)
        · exact absurd h3 (hQ a' w')
      · rename_i hw
        rw [if_neg hw] at h2
        exact ⟨fun _ _ => trivial, wpAny_in hd hQ fuel _ _ _ h2⟩
section
variable {P : Program} {n : Md} {ops : Array Oper} {Q : QT} {rest : List Oper} {l : Env} {w w0 : World} {M : Nat → Prop} {hp : List Ent} {d : Nat} {ty : TypeId} {pos : String} {af : Array Edge} {v : Value} {x y : Operand}
theorem WC.drawR {id : Nat} {lst : List Oper} (S : World → Prop) {fuel : Nat} {listed : Array Bool} (hm : P.follows .mixedOrders = true) (hf : lst.length = fuel) (hl : Array.replicate fuel false = listed) (hd : noDefer lst.toArray = true) (hQ : ∀ a w, ¬ Q .outgrown a w)
    (h : WH P n lst.toArray Q S fuel listed l w.drew) : WC P n (.region id lst.toArray true) Q l w := fun a ha => by
  subst hf; subst hl
  exact wpIn_region_any hm (wpAny_in hd hQ _ _ _ _ (wpAny_of_held _ _ _ _ (by simpa using h a ha)))
-- calls of a round
def YieldOk (P : Program) (L : Nat) (v : Value) (w : World) (R : Ending → World → Prop) : Prop :=
  ∃ r, w.heap[L]? = some (.loop r) ∧ r.params.size = 1 ∧ RoundIn (Fnc none) 0 P L r.fn ((r.params.zip #[v]).foldl (fun tmps (t, a) => tmps.setIfInBounds t a) r.tmps) r.assign r.body w R
theorem WC.regionY {id : Nat} {lst : List Oper} (h : WL P ⟨n.tmps, n.ro, n.ds, true⟩ lst.toArray Q lst l w) : WC P n (.region id lst.toArray false) Q l w := fun a ha => wpIn_region_lit (wpL_in _ _ _ (h a ⟨ha.size, ha.defers, ha.at_⟩))
theorem QN.offY {e : Exit} {b : Bool} (h : QN n Q e l w) : QN ⟨n.tmps, n.ro, n.ds, b⟩ Q e l w := fun a ha => h a ⟨ha.size, ha.defers, ha.at_⟩
theorem WL.yield {L : Nat} {ts : Array TypeId} {R : Ending → World → Prop} (hx : ev l x = some (.func (.yield L) #[] #[])) (hy : ev l y = some v) (hrd : n.rd = true) (hd : Nat.blt d n.tmps = true) (hY : YieldOk P L v w R)
    (K : ∀ e w', R e w' → ∃ u, e = .returned u ∧ WL P n ops Q rest ((d, u) :: l) w') :
    WL P n ops Q (⟨some d, .call { callee := .value x, args := #[y], argTypes := ts }, ty, pos, af, none⟩ :: rest) l w := fun a hag => by
  obtain ⟨r, hr, hs, hround⟩ := hY
  have hx' := hag.eval hx
  have hy' := hag.eval hy
  have hrun : (execOp a.eval ⟨some d, .call { callee := .value x, args := #[y], argTypes := ts }, ty, pos, af, none⟩).run P w = .ok (.round L r.fn ((r.params.zip #[v]).foldl (fun tmps (t, a) => tmps.setIfInBounds t a) r.tmps) r.assign r.body) w := by
    have h1 := run_yield (P := P) (args := #[v]) hr (by simp [hs])
    simp only [execOp, resolve, hx', Deferred.ofValue]
    simp [invoke, hy', h1]
  unfold wpL
  rw [if_pos (by simp [Region.wanted])]
  refine ⟨fun c h => (by cases h), ?_⟩
  rw [hrun]
  refine ⟨hrd, RoundIn.mono hround fun e w' h => ?_⟩
  obtain ⟨u, rfl, hk⟩ := K e w' h
  exact hk _ (hag.put u (Nat.le_of_ble_eq_true hd))
-- a round
def lrec (fn : FuncId) (tm : Array Value) (p : Tmp) (assign body : Code) (D : Nat) (st : LoopState) (pe : Option Code) : Loop := { state := st, pending := pe, fn := fn, tmps := tm, params := #[p], assign := assign, body := body, defers := D }
theorem yieldOk_of {a : Act} {p L D : Nat} {fn : FuncId} {assign body : Code} {R : Ending → World → Prop} (ha : Ag n a l) (hp : Nat.blt p n.tmps = true) (hL : w.heap[L]? = some (.loop (lrec fn a.tmps p assign body D .ready none)))
    (h : WC P ⟨n.tmps, some L, [], false⟩ assign (Exit.then (fun a1 w1 => ∃ w2, (Instr.beginRound L).run P w1 = .ok () w2 ∧ body.wpIn (Fnc (some L)) 0 P (roundPost P L R) a1 w2) (fun _ _ _ => False)) ((p, v) :: l) w) : YieldOk P L v w R := by
  refine ⟨_, hL, rfl, roundIn_of_wpIn (F := Fnc none) trivial ?_⟩
  refine h _ ⟨?_, rfl, fun t u hu => ?_⟩
  · simp [lrec, ha.size]
  · have := (ha.put v (Nat.le_of_ble_eq_true hp)).at_ t u hu
    simpa [Act.put, lrec] using this
theorem QN.beginR {k L : Nat} {r : Loop} {body : Code} {R : Ending → World → Prop} (hS : ST w0 M w hp) (hk : hp[k]? = some (.obj L (.loop r))) (hr : r.state = .ready)
    (h : ∀ w2, ST w0 M w2 (hp.set k (.obj L (.loop { r with state := .busy }))) → WC P n body (roundPost P L R) l w2) (hro : n.ro = some L := by rfl) :
    QN n (Exit.then (fun a1 w1 => ∃ w2, (Instr.beginRound L).run P w1 = .ok () w2 ∧ body.wpIn (Fnc (some L)) 0 P (roundPost P L R) a1 w2) (fun _ _ _ => False)) .normal l w := fun a ha => by
  refine ⟨_, run_beginRound (hS.at_ hk) hr, ?_⟩
  have := h _ (hS.putObj hk) a ha
  rwa [hro] at this
theorem QN.endR {k L : Nat} {r : Loop} {R : Ending → World → Prop} (hS : ST w0 M w hp) (hk : hp[k]? = some (.obj L (.loop r)))
    (h : ∀ w2, ST w0 M w2 (hp.set k (.obj L (.loop { r with state := .ready, pending := none }))) → R (.returned (.bool true)) w2) : QN n (roundPost P L R) .normal l w := fun _ _ =>
  ⟨_, _, run_endRound none (hS.at_ hk), h _ (hS.putObj hk)⟩
theorem QN.retR {k L : Nat} {r : Loop} {R : Ending → World → Prop} (hS : ST w0 M w hp) (hk : hp[k]? = some (.obj L (.loop r)))
    (h : ∀ w2, ST w0 M w2 (hp.set k (.obj L (.loop { r with state := .done, pending := some .ret }))) → R (.returned (.bool false)) w2) : QN n (roundPost P L R) .ret l w := fun _ _ =>
  ⟨_, _, run_endRound (some .ret) (hS.at_ hk), h _ (hS.putObj hk)⟩
/-- A range over a function. -/
theorem WC.rangeF {g : Operand} {p : Tmp} {assign body : Code} {gf : FuncId} {cap : List Value} (hS : ST w0 M w hp) (hg : ev l g = some (.func (.func gf) #[] cap.toArray)) (hc : callable P gf = true)
    (h : ∀ (a : Act) (fn : FuncId) (L D : Nat) (w1 : World), Ag n a l → ST w0 M w1 (.obj L (.loop (lrec fn a.tmps p assign body D .ready none)) :: .obj D (.deferred (some [])) :: hp) →
      Calls P gf (.func (.yield L) #[] #[] :: cap).toArray w1 fun e w3 => (∃ v, e = .returned v) ∧ ∃ st pe, st ≠ .busy ∧ w3.heap[L]? = some (.loop (lrec fn a.tmps p assign body D st pe)) ∧
        match pe with
        | none => QN ⟨n.tmps, n.ro, { target := .collected D, args := #[] } :: n.ds, n.rd⟩ Q .normal l (w3.putObj L (.loop (lrec fn a.tmps p assign body D .exhausted pe)))
        | some c => WC P ⟨n.tmps, n.ro, { target := .collected D, args := #[] } :: n.ds, n.rd⟩ c Q l (w3.putObj L (.loop (lrec fn a.tmps p assign body D .exhausted pe))))
    (hro : n.ro = none := by rfl) : WC P n (.rangeFunc g #[p] assign body) Q l w := fun a ha => by
  rw [hro]
  refine wpIn_rangeFunc ?_
  intro fn _
  have hg' := ha.eval hg
  have hS1 : ST w0 M ((w.alloc (.deferred (some []))).alloc (.loop (lrec fn a.tmps p assign body w.heap.size .ready none))) (.obj (w.heap.size + 1) (.loop (lrec fn a.tmps p assign body w.heap.size .ready none)) :: .obj w.heap.size (.deferred (some [])) :: hp) := by
    have h1 : ST w0 M (w.alloc (.deferred (some []))) (.obj w.heap.size (.deferred (some [])) :: hp) := hS.add (.alloc w _) (heap_alloc_new w _) (fun b hb => by simp [Ent.block] at hb; omega)
    refine h1.add (.alloc _ _) ?_ (fun b hb => by simp [Ent.block] at hb; simp; omega)
    have := heap_alloc_new (w.alloc (.deferred (some []))) (.loop (lrec fn a.tmps p assign body w.heap.size .ready none))
    rwa [World.size_alloc] at this
  obtain ⟨W1, hW1⟩ : ∃ W1, (w.alloc (.deferred (some []))).alloc (.loop (lrec fn a.tmps p assign body w.heap.size .ready none)) = W1 := ⟨_, rfl⟩
  rw [hW1] at hS1
  refine ⟨w.heap.size + 1, [{ target := .collected w.heap.size, args := #[] }], W1, { target := .fn (.func gf) cap.toArray, args := #[.func (.yield (w.heap.size + 1)) #[] #[]] }, W1, gf,
    (.func (.yield (w.heap.size + 1)) #[] #[] :: cap).toArray, W1, by rw [← hW1]; exact run_enterLoop_outer fn a.tmps #[p] assign body, ?_, fun _ _ => trivial, ?_, fun h => by simp [Fnc] at h, ?_⟩
  · simp only [resolve, hg']
    simp [Deferred.ofValue, Act.eval]
  · have := run_callFunc (P := P) (f := gf) (args := (.func (.yield (w.heap.size + 1)) #[] #[] :: cap).toArray) hc W1
    simp [invoke, this]
  · have h2 := h a fn (w.heap.size + 1) w.heap.size _ ha hS1
    have h3 : CallsIn Fence.wide (0 - 1) P gf _ _ _ := callsIn_wide.2 h2
    refine ⟨trivial, fun cs hr => ?_⟩
    obtain ⟨e, w3, fr, hR, hcs⟩ := h3.2 cs (room_wide _)
    refine ⟨e, w3, fr, ?_, hcs⟩
    obtain ⟨⟨v, rfl⟩, st, pe, hst, hL, hm⟩ := hR
    refine ⟨pe, _, run_endLoop hL (by simpa [lrec] using hst), ?_⟩
    have hag : Ag ⟨n.tmps, n.ro, { target := .collected w.heap.size, args := #[] } :: n.ds, n.rd⟩ { a with defers := [{ target := .collected w.heap.size, args := #[] }] ++ a.defers } l := ⟨ha.size, by simp [ha.defers], ha.at_⟩
    cases pe with
    | none => exact hm _ hag
    | some c =>
      have := hm _ hag
      simp only [hro] at this
      exact this
-- a function that holds such a range
theorem calls_of_WCM {f : FuncId} {fn : Func} {c : Code} {args : List Value} {R : Ending → World → Prop} {k : Nat}
    (hf : P.funcs[f]? = some fn) (hb : fn.body = some c) (hn : fn.ntmps = k) (hle : Nat.ble args.length k = true)
    (h : WC P (md k) c (bodyPostM (Fnc none) 0 P fn R) ((List.range args.length).zip args) w) : Calls P f args.toArray w R := by
  have h2 : CallsIn (Fnc none) 0 P f args.toArray w R := by
    refine callsIn_of_wp_marks hf hb trivial ?_
    refine h _ ?_
    have hle' : args.length ≤ k := Nat.le_of_ble_eq_true hle
    exact Ag.enter args (fn.ntmps - args.toArray.size) k (by simp [hn]; omega)
  have h3 : CallsIn Fence.wide 0 P f args.toArray w R := h2
  exact callsIn_wide.1 h3
theorem QN.noMark {fn : Func} {R : Ending → World → Prop} (h : QN n (bodyPost P fn R) .ret l w) : QN n (bodyPostM (Fnc none) 0 P fn R) .ret l w := fun a ha => by
  obtain ⟨hd, v, h1, h2⟩ := h a ha
  show LeavesInM (Fnc none) 0 P fn a.tmps R a.defers .returning w
  rw [hd]
  exact ⟨v, h1, h2⟩
theorem QN.unmark {fn : Func} {R : Ending → World → Prop} {k D : Nat} (hS : ST w0 M w hp) (hk : hp[k]? = some (.obj D (.deferred (some [])))) (hds : n.ds = [{ target := .collected D, args := #[] }])
    (h : ∀ w2, ST w0 M w2 (hp.set k (.obj D (.deferred none))) → QN ⟨n.tmps, n.ro, [], n.rd⟩ (bodyPost P fn R) .ret l w2) : QN n (bodyPostM (Fnc none) 0 P fn R) .ret l w := fun a ha => by
  obtain ⟨_, v, h1, h2⟩ := h _ (hS.putObj hk) { a with defers := [] } ⟨ha.size, rfl, ha.at_⟩
  show LeavesInM (Fnc none) 0 P fn a.tmps R a.defers .returning w
  rw [ha.defers, hds]
  exact ⟨by simp, .inl ⟨D, _, rfl, run_takeDeferred (hS.at_ hk), v, h1, h2⟩⟩
end
end Go.Eng
namespace Go.Eng
open Go Go.RowKit
/-- Texts of one length. -/
def KN (n : Nat) (ks : List (List UInt8)) : Prop := ∀ k ∈ ks, k.length = n
theorem KN.all {n : Nat} {ks : List (List UInt8)} (h : KN n ks) : ∀ c ∈ ks.map bs8, c.length = n := fun c hc => by
  obtain ⟨k, hk, rfl⟩ := List.mem_map.1 hc; rw [bs8_len]; exact h k hk
theorem KN.len {n : Nat} {ks : List (List UInt8)} (h : KN n ks) : (kc ks).length = ks.length * n := by
  rw [kc, flat_len (n := n) _ h.all, List.length_map]
theorem kc_atN {n : Nat} {ks : List (List UInt8)} (h : KN n ks) {i : Nat} (hi : i < ks.length) {j : Nat} {u : Value} (hu : (bs8 ks[i])[j]? = some u) : (kc ks)[i * n + j]? = some u := by
  have hj := getElem?_lt hu
  rw [bs8_len, h _ (List.getElem_mem hi)] at hj
  have := flat_at2 (css := ks.map bs8) (n := n) h.all (i := i) (r := j) (by simpa using hi) hj
  rw [kc, this, List.getElem_map]; exact hu
theorem KN.set {n : Nat} {ks : List (List UInt8)} (h : KN n ks) (i : Nat) {b : List UInt8} (hb : b.length = n) : KN n (ks.set i b) := fun k hk => by
  rcases List.mem_or_eq_of_mem_set hk with h1 | h1
  · exact h k h1
  · rw [h1]; exact hb
theorem KN.rep (n k : Nat) : KN n (List.replicate k (List.replicate n 0)) := fun x hx => by
  rw [(List.mem_replicate.1 hx).2, List.length_replicate]
theorem kc_rep (n k : Nat) : (List.replicate k (List.replicate n (b8 0))).flatten = kc (List.replicate k (List.replicate n 0)) := by
  rw [kc, List.map_replicate, bs8_rep]
theorem flat_split {α : Type} : ∀ (css : List (List α)) (i : Nat) (hi : i < css.length), css.flatten = (css.take i).flatten ++ css[i] ++ (css.drop (i + 1)).flatten
  | c :: css, 0, _ => by simp
  | c :: css, i + 1, hi => by
    have := flat_split css i (by simpa using hi)
    simp [this]
theorem kc_set {n : Nat} {ks : List (List UInt8)} (h : KN n ks) {i : Nat} (hi : i < ks.length) {b : List UInt8} : (kc ks).take (i * n) ++ bs8 b ++ (kc ks).drop (i * n + n) = kc (ks.set i b) := by
  have h1 : (kc ks).take (i * n) = kc (ks.take i) := by rw [kc, flat_take _ h.all, kc, List.map_take]
  have h2 : (kc ks).drop (i * n + n) = kc (ks.drop (i + 1)) := by rw [← Nat.succ_mul, kc, flat_cut _ h.all, kc, List.map_drop]
  rw [h1, h2]
  have h3 := flat_split ((ks.set i b).map bs8) i (by simpa using hi)
  rw [kc, kc, kc, h3]
  simp [List.map_set, List.take_set, List.drop_set]
  rw [List.set_eq_of_length_le (by simp; omega)]
section
variable {w : World}
theorem Rs.atN {A : Option Addr} {m c n : Nat} {ks : List (List UInt8)} (h : Rs w (.slice A m c) n (kc ks)) (hk : KN n ks) (hn : 0 < n) : ks.length = m ∧ m ≤ c ∧ c ≤ maxLen := by
  have h1 := h.len
  rw [hk.len] at h1
  exact ⟨Nat.eq_of_mul_eq_mul_right hn h1.1, h1.2⟩
end
end Go.Eng
namespace Go.Eng
open Go Go.RowKit
/-- A struct of two parts, both written out. -/
theorem fill_two {n0 n1 : Nat} {zs c0 c1 : List Value} {v0 v1 : Value} (hz : zs.length = n0 + n1) (h0 : v0.cells = c0.toArray) (h1 : v1.cells = c1.toArray) (l0 : c0.length = n0) (l1 : c1.length = n1) :
    Instr.fill (fun i => [(0, n0), (n0, n1)][i]?) zs.toArray [(0, v0), (1, v1)] = some (c0 ++ c1).toArray := by
  have s0 : v0.cells.size = n0 := by rw [h0]; simpa using l0
  have s1 : v1.cells.size = n1 := by rw [h1]; simpa using l1
  have e0 : v0.cells.zipIdx.foldl (fun (cs : Array Value) (x : Value × Nat) => cs.setIfInBounds (0 + x.2) x.1) zs.toArray = (c0 ++ zs.drop n0).toArray := by
    rw [h0, ← Array.foldl_toList, Array.toList_zipIdx]
    have := foldl_set 0 c0 0 [] (zs.take n0) (zs.drop n0) (by simp) (by simp; omega)
    rw [List.nil_append, List.take_append_drop] at this
    simpa using this
  have e1 : v1.cells.zipIdx.foldl (fun (cs : Array Value) (x : Value × Nat) => cs.setIfInBounds (n0 + x.2) x.1) (c0 ++ zs.drop n0).toArray = (c0 ++ c1).toArray := by
    rw [h1, ← Array.foldl_toList, Array.toList_zipIdx]
    have := foldl_set n0 c1 0 c0 (zs.drop n0) [] (by simp [l0]) (by simp; omega)
    simpa using this
  have b0 : (decide (v0.cells.size ≠ n0) || decide (0 + v0.cells.size > zs.toArray.size)) = false := by simp [s0]; omega
  have b1 : (decide (v1.cells.size ≠ n1) || decide (n0 + v1.cells.size > (c0 ++ zs.drop n0).toArray.size)) = false := by simp [s1, l0]; omega
  simp only [Instr.fill, List.getElem?_cons_zero, List.getElem?_cons_succ]
  rw [b0, e0, b1, e1]
  rfl
end Go.Eng
namespace Go.Eng
open Go Go.RowKit
theorem Bk.rsAllN {w : World} {b n m : Nat} {t : TypeId} {ss : List (List UInt8)} (h : Bk w b t (kc ss)) (hk : KN n ss) (hl : ss.length = m) (hm : m ≤ maxLen) : Rs w (.slice (some ⟨b, 0, none⟩) m m) n (kc ss) := by
  have := h.rs 0 m m n (Nat.le_refl _) hm (by rw [hk.len, hl]; omega)
  rwa [List.drop_zero, List.take_of_length_le (by rw [hk.len, hl]; exact Nat.le_refl _)] at this
end Go.Eng
namespace Go.Eng
open Go Go.RowKit
variable {P : Program} {n : Md} {ops : Array Oper} {Q : QT} {l : Env} {w w0 w1 w' : World} {M : Nat → Prop} {hp es : List Ent} {v : Value}
theorem QN.retTKT {fn : Func} {R : Ending → World → Prop} {s t T b k u : Nat} {tt : TypeId} {cs : List Value} {x : Value} (hr : fn.results = #[.tmp s, .cell t T, .tmp u]) (hs : lk l s = some v) (hv : lk l t = some (.pointer (some ⟨b, 0, none⟩))) (hS : ST w0 M w hp) (hk : hp[k]? = some (.blk b tt cs)) (hT : aggT P T = some cs.length) (hx : lk l u = some x) (h : R (.returned (.tuple #[v, .agg cs.toArray, x])) w) (hds : n.ds = [] := by rfl) :
    QN n (bodyPost P fn R) .ret l w := fun a ha =>
  bodyPost_ret (v := .tuple #[v, .agg cs.toArray, x]) (by have h0 := ha.at_ s _ hs; have h1 := ha.at_ t _ hv; have h2 := ha.at_ u _ hx; simp [results, hr, Array.getD_eq_getD_getElem?, h0, h1, h2, asAddr, run_loadAgg (w := w) hT (fun j u hu => by rw [Nat.zero_add]; exact hS.cell hk hu)]) (ha.defers.trans hds) h
theorem run_loadV {T : TypeId} {a : Addr} (hT : oneT P T = true) (hc : w.cell? a = some v) : (loadVar T a).run P w = .ok v w := by
  unfold oneT at hT
  cases hu : P.underlying T with
  | none => simp [hu] at hT
  | some u =>
    have hag : (isAgg T).run P w = .ok false w := by
      cases u <;> simp_all [isAgg, run_underlying hu]
    simp [loadVar, hag, hc]
theorem QN.retS {fn : Func} {R : Ending → World → Prop} {t T b k : Nat} {tt : TypeId} (hr : fn.results = #[.cell t T]) (hv : lk l t = some (.pointer (some ⟨b, 0, none⟩))) (hS : ST w0 M w hp) (hk : hp[k]? = some (.blk b tt [v])) (hT : oneT P T = true) (h : R (.returned v) w) (hds : n.ds = [] := by rfl) :
    QN n (bodyPost P fn R) .ret l w := fun a ha =>
  bodyPost_ret (v := v) (by have h1 := ha.at_ t _ hv; simp [results, hr, Array.getD_eq_getD_getElem?, h1, asAddr, run_loadV hT (hS.cell hk (i := 0) rfl)]) (ha.defers.trans hds) h
theorem QN.putF {e : Exit} {k b : Nat} {o o' : Obj} (hS : ST w0 M w hp) (hk : hp[k]? = some (.obj b o)) (h : ∀ w2, ST w0 M w2 (hp.set k (.obj b o')) → QN n Q e l w2) : QN n Q e l (w.putObj b o') := h _ (hS.putObj hk)
theorem Ours.eq1 {b : Nat} {t : TypeId} {cs : List Value} {x : Nat} : Ours [.blk b t cs] x ↔ x = b := by
  simp [Ours, Ent.block, eq_comm]
theorem ST.ofEq {b : Nat} {t : TypeId} {cs : List Value} (h : ST w0 (fun x => x = b) w hp) : ST w0 (Ours [.blk b t cs]) w hp :=
  ⟨h.fr.mono fun _ _ hx => Ours.eq1.2 hx, h.ok, fun e he x hx => (h.own e he x hx).imp id Ours.eq1.2, h.4⟩
theorem ST.toEq {b : Nat} {t : TypeId} {cs : List Value} (h : ST w0 (Ours [.blk b t cs]) w hp) : ST w0 (fun x => x = b) w hp :=
  ⟨h.fr.mono fun _ _ hx => Ours.eq1.1 hx, h.ok, fun e he x hx => (h.own e he x hx).imp id Ours.eq1.1, h.4⟩
theorem ST.last {e : Ent} (h : ST w0 M w (e :: hp)) : ST w0 M w (hp ++ [e]) := h.perm (List.perm_append_comm (l₁ := [e]) (l₂ := hp))
theorem ST.sel1 {i : Nat} {e : Ent} (h : ST w0 M w hp) (hi : hp[i]? = some e) : ST w0 M w [e] :=
  ⟨h.fr, by intro x hx; rw [List.mem_singleton.1 hx]; exact h.at_ hi, by intro x hx b hb; rw [List.mem_singleton.1 hx] at hb; exact h.own' hi hb, List.pairwise_singleton _ _⟩
theorem ST.sel2 {i j : Nat} {e f : Ent} (h : ST w0 M w hp) (hi : hp[i]? = some e) (hj : hp[j]? = some f) (hij : i ≠ j) : ST w0 M w [e, f] :=
  ⟨h.fr, by
    intro x hx
    rcases List.mem_cons.1 hx with rfl | hx
    · exact h.at_ hi
    · rw [List.mem_singleton.1 hx]; exact h.at_ hj, by
    intro x hx b hb
    rcases List.mem_cons.1 hx with rfl | hx
    · exact h.own' hi hb
    · rw [List.mem_singleton.1 hx] at hb; exact h.own' hj hb, by
    refine List.pairwise_cons.2 ⟨?_, List.pairwise_singleton _ _⟩
    intro x hx b hb
    rw [List.mem_singleton.1 hx]
    exact h.apart hi hj hij hb⟩
theorem ST.nameL {L : Nat} {r : Loop} {G : Prop} (h : ST w0 M w (.obj L (.loop r) :: hp)) (K : ∀ rL, rL = r → ST w0 M w (.obj L (.loop rL) :: hp) → G) : G := K r rfl h
theorem ST.sub (h : ST w0 M w hp) (hs : List.Sublist es hp) : ST w0 M w es :=
  ⟨h.fr, fun e he => h.ok e (hs.subset he), fun e he => h.own e (hs.subset he), h.sep.sublist hs⟩
/-- Without a panic. -/
def NP (Q : QT) : QT
  | .panic _, _, _ => False
  | e, a, w => Q e a w
theorem WC.np {c : Code} (h : WC P n c (NP Q) l w) : WC P n c Q l w := fun a ha => wpIn_mono (h a ha) fun e a w hq => by
  cases e <;> first | exact hq | exact hq.elim
theorem QN.np (h : QN n Q .normal l w) : QN n (NP Q) .normal l w := h
end Go.Eng
