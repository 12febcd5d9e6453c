/- The engine: rules by which a run of a function is read off, part T. -/
import Derived.Test.YtjcebkhhgdgohaaEngS
namespace Go.Eng
open Go Go.RowKit
theorem zeroCells_list (zs : List Value) (n : Nat) : (Builtin.zeroCells zs.toArray n).toList = (List.replicate n zs).flatten := by
  have h := madeCells_list zs n
  simpa [madeCells, Builtin.zeroCells] using h
theorem run_appendZ {P : Program} {w : World} {T U ty e : TypeId} {k k2 : IntKind} {sz by_ N m : Nat} {v : Value} {xs zs : List Value} (hT : slT P T = some (e, sz, by_)) (hzT : zeroT P e = some zs) (hzl : zs.length = sz) (hU : P.underlying U = some (.int k)) (hsz : 0 < sz)
    (hv : Rw w v e sz xs) (hone : ∀ u ∈ zs, u.oneCell' = true) (hN : xs.length + m * sz ≤ N * sz) (hb : N * by_ ≤ 140737488355328) (hN2 : N ≤ maxLen) :
    ∃ v' w', (Builtin.append_ #[T, U] ty #[v, .int k2 (m : Int)]).run P w = .ok v' w' ∧ Fr (fun b => v.ownBlock = some b) w w' ∧ Rw w' v' e sz (xs ++ (List.replicate m zs).flatten) ∧ (∀ b, v'.ownBlock = some b → v.ownBlock = some b ∨ w.heap.size ≤ b) ∧ Rs w' v sz xs := by
  have hvr := hv.rs
  unfold slT at hT
  cases hu : P.underlying T with
  | none => simp [hu] at hT
  | some u =>
  cases u <;> simp [hu] at hT
  obtain ⟨i, hi, rfl, rfl, rfl⟩ := hT
  rename_i e
  have hz' : ∃ z, i.zero = some z ∧ z.cells = zs.toArray := by
    unfold zeroT at hzT
    rw [hi] at hzT
    cases hzz : i.zero with
    | none => simp [hzz] at hzT
    | some z => exact ⟨z, rfl, by simp [hzz] at hzT; rw [← hzT]⟩
  obtain ⟨z, hz1, hz3⟩ := hz'
  have hz2 : z.cells.size = i.size := by rw [hz3]; simpa using hzl
  have hwr : IntKind.i64.wrap (m : Int) = (m : Int) := by
    have h1 : m * i.size ≤ N * i.size := by omega
    have h2 : m ≤ N := Nat.le_of_mul_le_mul_right h1 hsz
    have := hN2; simp only [maxLen] at this
    exact wrap_i64 (by omega) (by omega)
  have hmN : m ≤ N := Nat.le_of_mul_le_mul_right (show m * i.size ≤ N * i.size by omega) hsz
  have hm48 : ¬ (281474976710656 < (m : Int) * (i.bytes : Int)) := by
    have h3 : m * i.bytes ≤ N * i.bytes := Nat.mul_le_mul_right _ hmN
    have h4 : ((m * i.bytes : Nat) : Int) = (m : Int) * (i.bytes : Int) := by simp
    omega
  obtain ⟨ys, hys⟩ : ∃ ys, ys = (List.replicate m zs).flatten := ⟨_, rfl⟩
  have hl : ys.length = m * i.size := by rw [hys]; simp [hzl]
  have hl0 : m * i.size = 0 → ys = [] := fun h => List.eq_nil_of_length_eq_zero (by omega)
  rw [← hys]
  have h1 : ∀ u ∈ ys, u.oneCell' = true := by
    intro u hu2
    rw [hys] at hu2
    obtain ⟨l, hl1, hl2⟩ := List.mem_flatten.1 hu2
    rw [(List.mem_replicate.1 hl1).2] at hl2
    exact hone u hl2
  have happ : ∀ w', (if m * i.size = 0 then (pure #[] : Sem (Array Value)) else do pure (Builtin.zeroCells (← zeroValue e).cells m)).run P w' = .ok ys.toArray w' := by
    intro w'
    split
    · rename_i h0; rw [hl0 h0]; rfl
    · simp [zeroValue, typeInfo, hi, hz1, hz3]
      apply Array.ext'
      rw [zeroCells_list, hys]
  have hw0 : IntKind.i64.wrap 0 = 0 := by decide
  have hys2 : Builtin.zeroCells z.cells m = ys.toArray := by
    apply Array.ext'
    rw [hz3, zeroCells_list, hys]
  have hzv : ∀ w' : World, (zeroValue e).run P w' = .ok z w' := fun w' => by simp [zeroValue, typeInfo, hi, hz1]
  have hneg : ¬ ((m : Int) < 0) := by omega
  have hcap : (281474976710656 < (m : Int) * (i.bytes : Int)) = False := by simpa using hm48
  have hf : ∀ w', Fr No w w' → _ := fun w' (_ : Fr No w w') => happ w'
  have zlen : ∀ n, (Builtin.zeroCells z.cells n).toList.length = n * i.size := fun n => by rw [size_zeros, hz2]
  -- a new block
  have grown : ∀ (n old : Nat), xs.length = n * i.size → old < n + m →
      ∀ cap, cap = grownCap w (n + m) old e →
      Fr No w (w.drew.alloc (.cells (xs.toArray ++ ys.toArray ++ Builtin.zeroCells z.cells (cap - (n + m))) e)) ∧
      Rw (w.drew.alloc (.cells (xs.toArray ++ ys.toArray ++ Builtin.zeroCells z.cells (cap - (n + m))) e)) (.slice (some ⟨w.heap.size, 0, none⟩) (n + m) cap) e i.size (xs ++ ys) := by
    intro n old hn ho cap hcap
    have hge : n + m ≤ cap := by rw [hcap]; exact grownCap_ge w (n + m) old e
    have hnm : n + m ≤ N := by
      have : (n + m) * i.size ≤ N * i.size := by rw [Nat.add_mul, ← hn]; exact hN
      exact Nat.le_of_mul_le_mul_right this hsz
    have hcm : cap ≤ maxLen := by rw [hcap]; exact grownCap_le_maxLen w (n + m) old e (Nat.le_trans hnm hN2)
    refine ⟨(Fr.drew w).trans (Fr.alloc w.drew _) (fun _ _ h => h), .inr ⟨w.heap.size, n + m, cap, (Builtin.zeroCells z.cells (cap - (n + m))).toList, rfl, ?_, ?_, hge, hcm, ?_⟩⟩
    · have := Bk.new w.drew e (xs ++ ys ++ (Builtin.zeroCells z.cells (cap - (n + m))).toList)
      have e1 : (xs ++ ys ++ (Builtin.zeroCells z.cells (cap - (n + m))).toList).toArray = xs.toArray ++ ys.toArray ++ Builtin.zeroCells z.cells (cap - (n + m)) := by
        apply Array.ext'; simp
      rw [e1] at this
      exact this
    · simp [hn, hl, Nat.add_mul]
    · rw [List.length_append, List.length_append, hn, hl, zlen, ← Nat.add_mul, ← Nat.add_mul]; congr 1; omega
  rcases hv with ⟨rfl, rfl⟩ | ⟨g, n, cap, sp, rfl, hk, hn, hnc, hcm, hlen⟩
  · by_cases h0 : m = 0
    · subst h0
      have hy : ys = [] := List.eq_nil_of_length_eq_zero (by simpa using hl)
      subst hy
      refine ⟨.slice none 0 0, w, ?_, .refl _, .inl ⟨rfl, rfl⟩, by simp [Value.ownBlock], hvr⟩
      have := hf w (.refl _)
      simp [Builtin.append_, run_underlying hu, sizeOf, typeInfo, hi, run_underlying hU, asInt, asIntOf, hw0]
    · have hm : ¬ m ≤ 0 := by omega
      have hmN : m ≤ N := by
        have : m * i.size ≤ N * i.size := by simpa using hN
        exact Nat.le_of_mul_le_mul_right this hsz
      have h63 : ¬ (9223372036854775807 < (m : Int)) := by have := hN2; simp only [maxLen] at this; omega
      have h48 : ¬ (281474976710656 < Builtin.nextslicecap m 0 * i.bytes) := by
        rw [nextslicecap_zero (by omega)]
        have : m * i.bytes ≤ N * i.bytes := Nat.mul_le_mul_right _ hmN
        omega
      have g1 := grown 0 0 (by simp) (by omega) _ rfl
      have hfd := hf w.drew (Fr.drew w)
      refine ⟨.slice (some ⟨w.heap.size, 0, none⟩) (0 + m) (grownCap w (0 + m) 0 e), _, ?_, g1.1.no, g1.2, fun b hb => .inr (by simp [Value.ownBlock] at hb; omega), hvr.no g1.1⟩
      have h0z : ¬ (m * i.size = 0) := by
        intro h; rcases Nat.mul_eq_zero.1 h with h | h <;> omega
      simp [Builtin.append_, run_underlying hu, sizeOf, typeInfo, hi, hzv, run_underlying hU, asInt, asIntOf, hwr, hneg, hcap, h0, h63, h48, Question.forced, run_firstCells_none, newRow, grownCap, h0z, hys2]
  · have hnm : n + m ≤ N := by
      have : (n + m) * i.size ≤ N * i.size := by rw [Nat.add_mul, ← hn]; exact hN
      exact Nat.le_of_mul_le_mul_right this hsz
    by_cases hroom : n + m ≤ cap
    · have hfw := hf w (.refl _)
      have hfit : n * i.size + ys.length ≤ (xs ++ sp).length := by rw [hlen, hl, ← Nat.add_mul]; exact Nat.mul_le_mul_right _ hroom
      have hst := run_storeCells_bk (P := P) g (n * i.size) e ys 0 (xs ++ sp) w hk (by simpa using hfit) h1
      simp only [Nat.add_zero] at hst
      have e1 : (xs ++ sp).take (n * i.size) ++ ys ++ (xs ++ sp).drop (n * i.size + ys.length) = xs ++ ys ++ sp.drop ys.length := by
          rw [← hn, List.take_left, List.drop_append]
          simp
      have hB : Bk (w.setRow g ((xs ++ sp).take (n * i.size) ++ ys ++ (xs ++ sp).drop (n * i.size + ys.length)).toArray) g e (xs ++ ys ++ sp.drop ys.length) := by
        rw [e1]
        refine Bk.set hk ?_
        simp at hlen hfit ⊢; omega
      refine ⟨.slice (some ⟨g, 0, none⟩) (n + m) cap, w.setRow g ((xs ++ sp).take (n * i.size) ++ ys ++ (xs ++ sp).drop (n * i.size + ys.length)).toArray, ?_, Fr.setRow w g _ rfl, .inr ⟨g, n + m, cap, sp.drop ys.length, rfl, ?_, ?_, hroom, hcm, ?_⟩, fun b hb => .inl hb, ⟨_, _, _, rfl, hnc, hcm, hn, .inr ⟨g, 0, rfl, fun j u hu => by rw [Nat.zero_add, hB.cell, List.append_assoc, List.getElem?_append_left (getElem?_lt hu)]; exact hu⟩⟩⟩
      · by_cases h0z : m * i.size = 0
        · have e0 := hl0 h0z
          clear hys2 happ hf
          subst e0
          simp [Builtin.append_, run_underlying hu, sizeOf, typeInfo, hi, run_underlying hU, asInt, asIntOf, hwr, hneg, hcap, hroom, h0z, add0, hst]
        · simp [Builtin.append_, run_underlying hu, sizeOf, typeInfo, hi, run_underlying hU, asInt, asIntOf, hwr, hneg, hcap, hroom, h0z, hzv, hys2, add0, hst]
      · exact hB
      · simp [hn, hl, Nat.add_mul]
      · simp at hlen hfit ⊢; omega
    · have hroom' : ¬ n + m ≤ cap := hroom
      have h63 : ¬ (9223372036854775807 < ((n : Int) + (m : Int))) := by have := hN2; simp only [maxLen] at this; omega
      have h48 : ¬ (281474976710656 < Builtin.nextslicecap (n + m) cap * i.bytes) := by
        have := growslice_fits (bytes := i.bytes) (old := cap) (need := n + m) (by omega) (by
          have : (n + m) * i.bytes ≤ N * i.bytes := Nat.mul_le_mul_right _ hnm
          omega)
        omega
      have g1 := grown n cap hn (by omega) _ rfl
      have hfd := hf w.drew (Fr.drew w)
      have hold : (Builtin.firstCells i.size n (.slice (some ⟨g, 0, none⟩) n cap)).run P w.drew = .ok xs.toArray w.drew :=
        run_firstCells_some w.drew i.size n _ n cap xs hn (fun j u hu => by
          rw [add0, World.cell?_drew, hk.cell, Nat.zero_add, List.getElem?_append_left (getElem?_lt hu)]; exact hu)
      refine ⟨.slice (some ⟨w.heap.size, 0, none⟩) (n + m) (grownCap w (n + m) cap e), _, ?_, g1.1.no, g1.2, fun b hb => .inr (by simp [Value.ownBlock] at hb; omega), hvr.no g1.1⟩
      by_cases h0z : m * i.size = 0
      · have e0 := hl0 h0z
        clear hys2 happ hf hfd
        subst e0
        simp [Builtin.append_, run_underlying hu, sizeOf, typeInfo, hi, hzv, run_underlying hU, asInt, asIntOf, hwr, hneg, hcap, hroom', h63, h48, Question.forced, hold, newRow, grownCap, h0z]
      · simp [Builtin.append_, run_underlying hu, sizeOf, typeInfo, hi, hzv, run_underlying hU, asInt, asIntOf, hwr, hneg, hcap, hroom', h63, h48, Question.forced, hold, newRow, grownCap, h0z, hys2]
        congr 2
        apply Array.ext'
        simp
section
variable {P : Program} {n : Md} {ops : Array Oper} {Q : QT} {rest : List Oper} {l : Env} {w w0 : World} {M : Nat → Prop} {hp : List Ent} {d : Nat} {ty : TypeId} {pos : String} {af : Array Edge} {v : Value} {T U : TypeId} {x y : Operand}
/-- So many zero elements behind a row. -/
theorem WL.appendZ {k e sz by_ N q : Nat} {kk k2 : IntKind} {xs zs : List Value} (hS : ST w0 M w hp) (hT : slT P T = some (e, sz, by_)) (hz : zeroT P e = some zs) (hzl : zs.length = sz) (hU : P.underlying U = some (.int kk)) (hsz : 0 < sz) (hone : ∀ u ∈ zs, u.oneCell' = true)
    (hx : ev l x = some v) (hk : hp[k]? = some (.row v e sz xs)) (hy : ev l y = some (.int k2 (q : Int))) (hN : xs.length + q * sz ≤ N * sz) (hb : N * by_ ≤ 140737488355328) (hN2 : N ≤ maxLen) (hd : Nat.blt d n.tmps = true)
    (K : ∀ v' w', Fr (fun b => v.ownBlock = some b) w w' → ST w0 M w' (hp.set k (.row v' e sz (xs ++ (List.replicate q zs).flatten))) → WL P n ops Q rest ((d, v') :: l) w') :
    WL P n ops Q (⟨some d, .call { callee := .builtin .append, args := #[x, y], argTypes := #[T, U] }, ty, pos, af, none⟩ :: rest) l w := by
  obtain ⟨v', w', hrun, hf, hrw, hbl, _⟩ := run_appendZ (P := P) (ty := ty) (k2 := k2) hT hz hzl hU hsz (hS.at_ hk) hone hN hb hN2
  refine WL.wv (fun ρ hρ => ?_) hd (K v' w' hf (hS.upd hk hf hrw hbl))
  simp [execOp, resolve, invoke, builtin, hρ _ _ hx, hρ _ _ hy, hrun]
end
end Go.Eng
