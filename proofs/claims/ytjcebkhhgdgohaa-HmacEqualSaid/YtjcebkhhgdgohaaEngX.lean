/- The engine: rules by which a run of a function is read off, part X. -/
import Derived.Test.YtjcebkhhgdgohaaEngW
import Derived.Laws.RangeAny
import Derived.RangeFuncRecord
namespace Go.Eng
open Go Go.RowKit
/-- append onto a row of one's own, of a string's bytes. -/
theorem run_appendStr {P : Program} {w : World} {T U ty e : TypeId} {by_ N : Nat} {v : Value} {str : ByteArray} {xs : List Value} (hT : slT P T = some (e, 1, by_)) (hz : (zeroT P e).map List.length = some 1) (hU : P.underlying U = some .string)
    (hv : Rw w v e 1 xs) (hN : xs.length + str.size ≤ N) (hb : N * by_ ≤ 140737488355328) (hN2 : N ≤ maxLen) :
    ∃ v' w', (Builtin.append_ #[T, U] ty #[v, .string str]).run P w = .ok v' w' ∧ Fr (fun b => v.ownBlock = some b) w w' ∧ Rw w' v' e 1 (xs ++ bs8 str.data.toList) ∧ (∀ b, v'.ownBlock = some b → v.ownBlock = some b ∨ w.heap.size ≤ b) ∧ Rs w' v 1 xs := by
  have hvr := hv.rs
  obtain ⟨ys, hys⟩ : ∃ ys, ys = bs8 str.data.toList := ⟨_, rfl⟩
  rw [← hys]
  obtain ⟨m, hm0⟩ : ∃ m, m = str.size := ⟨_, rfl⟩
  have hl1 : ys.length = m := by rw [hys, bs8_len, hm0]; rfl
  have h1 : ∀ u ∈ ys, u.oneCell' = true := by rw [hys]; exact bs8_one
  have hfs : ∀ w' : World, (Builtin.firstCells 1 m (.string str)).run P w' = .ok ys.toArray w' := by
    intro w'
    simp only [Builtin.firstCells, Sem.run_pure]
    congr 1
    apply Array.ext'
    rw [hys, hm0]
    have : str.extract 0 str.size = str := by
      apply ByteArray.ext
      simp
    rw [this]
    simp [bs8]
  have hlo : ∀ w' : World, (Builtin.lenOf (.string str)).run P w' = .ok m w' := by intro w'; rw [hm0]; rfl
  rw [← hm0] at hN
  unfold slT at hT
  cases hu : P.underlying T with
  | none => simp [hu] at hT
  | some u =>
  cases u <;> simp [hu] at hT
  obtain ⟨i, hi, rfl, hsz1, rfl⟩ := hT
  rename_i e
  have hz' : ∃ z, i.zero = some z ∧ z.cells.size = i.size := by
    unfold zeroT at hz
    rw [hi] at hz
    cases hzz : i.zero with
    | none => simp [hzz] at hz
    | some z => exact ⟨z, rfl, by have h9 := hz; simp [hzz] at h9; omega⟩
  obtain ⟨z, hz1, hz2⟩ := hz'
  rw [← hsz1] at hv hvr hfs
  rw [show (1 : Nat) = i.size from hsz1.symm] at hz
  rw [← hsz1]
  have hsz : 0 < i.size := by omega
  have hl : ys.length = m * i.size := by rw [hsz1, Nat.mul_one]; exact hl1
  replace hN : xs.length + ys.length ≤ N * i.size := by rw [hsz1, Nat.mul_one, hl1]; exact hN
  have hf : ∀ w', Fr No w w' → (Builtin.firstCells i.size m (.string str)).run P w' = .ok ys.toArray w' := fun w' _ => hfs w'
  have zlen : ∀ n, (Builtin.zeroCells z.cells n).toList.length = n * i.size := fun n => by rw [size_zeros, hz2]
  -- a new block
  have grown : ∀ (n old : Nat), xs.length = n * i.size → old < n + m →
      ∀ cap, cap = grownCap w (n + m) old e →
      Fr No w (w.drew.alloc (.cells (xs.toArray ++ ys.toArray ++ Builtin.zeroCells z.cells (cap - (n + m))) e)) ∧
      Rw (w.drew.alloc (.cells (xs.toArray ++ ys.toArray ++ Builtin.zeroCells z.cells (cap - (n + m))) e)) (.slice (some ⟨w.heap.size, 0, none⟩) (n + m) cap) e i.size (xs ++ ys) := by
    intro n old hn ho cap hcap
    have hge : n + m ≤ cap := by rw [hcap]; exact grownCap_ge w (n + m) old e
    have hnm : n + m ≤ N := by
      have : (n + m) * i.size ≤ N * i.size := by rw [Nat.add_mul, ← hn, ← hl]; exact hN
      exact Nat.le_of_mul_le_mul_right this hsz
    have hcm : cap ≤ maxLen := by rw [hcap]; exact grownCap_le_maxLen w (n + m) old e (Nat.le_trans hnm hN2)
    refine ⟨(Fr.drew w).trans (Fr.alloc w.drew _) (fun _ _ h => h), .inr ⟨w.heap.size, n + m, cap, (Builtin.zeroCells z.cells (cap - (n + m))).toList, rfl, ?_, ?_, hge, hcm, ?_⟩⟩
    · have := Bk.new w.drew e (xs ++ ys ++ (Builtin.zeroCells z.cells (cap - (n + m))).toList)
      have e1 : (xs ++ ys ++ (Builtin.zeroCells z.cells (cap - (n + m))).toList).toArray = xs.toArray ++ ys.toArray ++ Builtin.zeroCells z.cells (cap - (n + m)) := by
        apply Array.ext'; simp
      rw [e1] at this
      exact this
    · simp [hn, hl, Nat.add_mul]
    · rw [List.length_append, List.length_append, hn, hl, zlen, ← Nat.add_mul, ← Nat.add_mul]; congr 1; omega
  rcases hv with ⟨rfl, rfl⟩ | ⟨g, n, cap, sp, rfl, hk, hn, hnc, hcm, hlen⟩
  · by_cases h0 : m = 0
    · subst h0
      have hy : ys = [] := List.eq_nil_of_length_eq_zero (by simpa using hl)
      subst hy
      refine ⟨.slice none 0 0, w, ?_, .refl _, .inl ⟨rfl, rfl⟩, by simp [Value.ownBlock], hvr⟩
      have := hf w (.refl _)
      simp [Builtin.append_, run_underlying hu, sizeOf, typeInfo, hi, run_underlying hU, hlo, this]
    · have hm : ¬ m ≤ 0 := by omega
      have hmN : m ≤ N := by
        have : m * i.size ≤ N * i.size := by rw [← hl]; simpa using hN
        exact Nat.le_of_mul_le_mul_right this hsz
      have h63 : ¬ (9223372036854775807 < (m : Int)) := by have := hN2; simp only [maxLen] at this; omega
      have h48 : ¬ (281474976710656 < Builtin.nextslicecap m 0 * i.bytes) := by
        rw [nextslicecap_zero (by omega)]
        have : m * i.bytes ≤ N * i.bytes := Nat.mul_le_mul_right _ hmN
        omega
      have g1 := grown 0 0 (by simp) (by omega) _ rfl
      have hfd := hf w.drew (Fr.drew w)
      refine ⟨.slice (some ⟨w.heap.size, 0, none⟩) (0 + m) (grownCap w (0 + m) 0 e), _, ?_, g1.1.no, g1.2, fun b hb => .inr (by simp [Value.ownBlock] at hb; omega), hvr.no g1.1⟩
      simp [Builtin.append_, run_underlying hu, sizeOf, typeInfo, zeroValue, hi, hz1, run_underlying hU, hlo, h0, h63, h48, Question.forced, run_firstCells_none, hfd, newRow, grownCap]
  · have hnm : n + m ≤ N := by
      have : (n + m) * i.size ≤ N * i.size := by rw [Nat.add_mul, ← hn, ← hl]; exact hN
      exact Nat.le_of_mul_le_mul_right this hsz
    by_cases hroom : n + m ≤ cap
    · have hfw := hf w (.refl _)
      have hfit : n * i.size + ys.length ≤ (xs ++ sp).length := by rw [hlen, hl, ← Nat.add_mul]; exact Nat.mul_le_mul_right _ hroom
      have hst := run_storeCells_bk (P := P) g (n * i.size) e ys 0 (xs ++ sp) w hk (by simpa using hfit) h1
      simp only [Nat.add_zero] at hst
      have e1 : (xs ++ sp).take (n * i.size) ++ ys ++ (xs ++ sp).drop (n * i.size + ys.length) = xs ++ ys ++ sp.drop ys.length := by
          rw [← hn, List.take_left, List.drop_append]
          simp
      have hB : Bk (w.setRow g ((xs ++ sp).take (n * i.size) ++ ys ++ (xs ++ sp).drop (n * i.size + ys.length)).toArray) g e (xs ++ ys ++ sp.drop ys.length) := by
        rw [e1]
        refine Bk.set hk ?_
        simp at hlen hfit ⊢; omega
      refine ⟨.slice (some ⟨g, 0, none⟩) (n + m) cap, w.setRow g ((xs ++ sp).take (n * i.size) ++ ys ++ (xs ++ sp).drop (n * i.size + ys.length)).toArray, ?_, Fr.setRow w g _ rfl, .inr ⟨g, n + m, cap, sp.drop ys.length, rfl, ?_, ?_, hroom, hcm, ?_⟩, fun b hb => .inl hb, ⟨_, _, _, rfl, hnc, hcm, hn, .inr ⟨g, 0, rfl, fun j u hu => by rw [Nat.zero_add, hB.cell, List.append_assoc, List.getElem?_append_left (getElem?_lt hu)]; exact hu⟩⟩⟩
      · simp [Builtin.append_, run_underlying hu, sizeOf, typeInfo, hi, run_underlying hU, hlo, hroom, hfw, add0, hst]
      · exact hB
      · simp [hn, hl, Nat.add_mul]
      · simp at hlen hfit ⊢; omega
    · have hroom' : ¬ n + m ≤ cap := hroom
      have h63 : ¬ (9223372036854775807 < ((n : Int) + (m : Int))) := by have := hN2; simp only [maxLen] at this; omega
      have h48 : ¬ (281474976710656 < Builtin.nextslicecap (n + m) cap * i.bytes) := by
        have := growslice_fits (bytes := i.bytes) (old := cap) (need := n + m) (by omega) (by
          have : (n + m) * i.bytes ≤ N * i.bytes := Nat.mul_le_mul_right _ hnm
          omega)
        omega
      have g1 := grown n cap hn (by omega) _ rfl
      have hfd := hf w.drew (Fr.drew w)
      have hold : (Builtin.firstCells i.size n (.slice (some ⟨g, 0, none⟩) n cap)).run P w.drew = .ok xs.toArray w.drew :=
        run_firstCells_some w.drew i.size n _ n cap xs hn (fun j u hu => by
          rw [add0, World.cell?_drew, hk.cell, Nat.zero_add, List.getElem?_append_left (getElem?_lt hu)]; exact hu)
      refine ⟨.slice (some ⟨w.heap.size, 0, none⟩) (n + m) (grownCap w (n + m) cap e), _, ?_, g1.1.no, g1.2, fun b hb => .inr (by simp [Value.ownBlock] at hb; omega), hvr.no g1.1⟩
      simp [Builtin.append_, run_underlying hu, sizeOf, typeInfo, zeroValue, hi, hz1, run_underlying hU, hlo, hroom', h63, h48, Question.forced, hfd, hold, newRow, grownCap]
      congr 2
      apply Array.ext'
      simp [List.append_assoc]
section
variable {P : Program} {n : Md} {ops : Array Oper} {Q : QT} {rest : List Oper} {l : Env} {w w0 : World} {M : Nat → Prop} {hp : List Ent} {d : Nat} {ty : TypeId} {pos : String} {af : Array Edge} {v : Value} {T U : TypeId} {x y : Operand}
theorem WL.appendStr {k e by_ N : Nat} {str : ByteArray} {xs : List Value} (hS : ST w0 M w hp) (hT : slT P T = some (e, 1, by_)) (hz : (zeroT P e).map List.length = some 1) (hU : P.underlying U = some .string)
    (hx : ev l x = some v) (hk : hp[k]? = some (.row v e 1 xs)) (hy : ev l y = some (.string str)) (hN : xs.length + str.size ≤ N) (hb : N * by_ ≤ 140737488355328) (hN2 : N ≤ maxLen) (hd : Nat.blt d n.tmps = true)
    (K : ∀ v' w', Fr (fun b => v.ownBlock = some b) w w' → ST w0 M w' (hp.set k (.row v' e 1 (xs ++ bs8 str.data.toList))) → WL P n ops Q rest ((d, v') :: l) w') :
    WL P n ops Q (⟨some d, .call { callee := .builtin .append, args := #[x, y], argTypes := #[T, U] }, ty, pos, af, none⟩ :: rest) l w := by
  obtain ⟨v', w', hrun, hf, hrw, hbl, _⟩ := run_appendStr (P := P) (ty := ty) hT hz hU (hS.at_ hk) hN hb hN2
  refine WL.wv (fun ρ hρ => ?_) hd (K v' w' hf (hS.upd hk hf hrw hbl))
  simp [execOp, resolve, invoke, builtin, hρ _ _ hx, hρ _ _ hy, hrun]
/-- A slice taken as the address of an array. -/
theorem pv_s2ap {A : Option Addr} {m c N sz : Nat} (hT : arrT P T = some (N, sz)) (hx : ev l x = some (.slice A m c)) (hm : N ≤ m) : PV P l ⟨some d, .sliceToArrayPointer T x, ty, pos, af, none⟩ (.pointer A) := ⟨rfl, fun ρ hρ w => by
  unfold arrT at hT
  cases hu : P.underlying T with
  | none => simp [hu] at hT
  | some u =>
    cases u <;> simp [hu] at hT
    obtain ⟨q, hq, rfl, rfl⟩ := hT
    simp [execOp, hρ _ _ hx, Instr.arrayAt, run_underlying hu, Nat.not_lt.2 hm]⟩
/-- A string, ranged over. -/
theorem WL.rangeStr {s : ByteArray} (hS : ST w0 M w hp) (hT : P.underlying T = some .string) (hx : ev l x = some (.string s)) (hd : Nat.blt d n.tmps = true)
    (K : ∀ b w', w0.heap.size ≤ b → ST w0 M w' (.obj b (.stringIter s 0) :: hp) → WL P n ops Q rest ((d, .pointer (some ⟨b, 0, none⟩)) :: l) w') :
    WL P n ops Q (⟨some d, .range T x, ty, pos, af, none⟩ :: rest) l w := by
  refine WL.wv (fun ρ hρ => ?_) hd (K w.heap.size (w.alloc (.stringIter s 0)) hS.fr.size (hS.add (.alloc w _) (heap_alloc_new w _) (fun b hb => by simp [Ent.block] at hb; omega)))
  simp only [execOp, hρ _ _ hx, Instr.range, Sem.run_bind, run_underlying hT]
  simp
theorem ST.putObj {k b : Nat} {o o' : Obj} (hS : ST w0 M w hp) (hk : hp[k]? = some (.obj b o)) : ST w0 M (w.putObj b o') (hp.set k (.obj b o')) := by
  have hb : w.heap[b]? = some o := hS.at_ hk
  refine hS.upd hk (w' := w.putObj b o') ⟨rfl, rfl, rfl, by simp, fun i _ hi => World.putObj_heap_other (fun e => hi (by rw [e]; rfl))⟩ (World.putObj_heap_same (Array.getElem?_eq_some_iff.1 hb).1) (fun _ h => .inl h)
theorem WL.nextStr {k b p : Nat} {s : ByteArray} (hS : ST w0 M w hp) (hk : hp[k]? = some (.obj b (.stringIter s p))) (hx : ev l x = some (.pointer (some ⟨b, 0, none⟩))) (hps : p < s.size) (hd : Nat.blt d n.tmps = true)
    (K : ∀ w', ST w0 M w' (hp.set k (.obj b (.stringIter s (p + (Utf8.decode s p).2)))) → WL P n ops Q rest ((d, .tuple #[.bool true, .int .i64 (p : Int), .int .i32 ((Utf8.decode s p).1 : Int)]) :: l) w') :
    WL P n ops Q (⟨some d, .next x true, ty, pos, af, none⟩ :: rest) l w := by
  have hb : w.heap[b]? = some (.stringIter s p) := hS.at_ hk
  refine WL.wv (fun ρ hρ => ?_) hd (K (w.putObj b (.stringIter s (p + (Utf8.decode s p).2))) (hS.putObj hk))
  simp only [execOp, hρ _ _ hx, Instr.next, getObj, setObj, Sem.run_bind, Sem.run, hb, Result.andThen, hps, if_true]
  simp [goInt, World.putObj]
theorem WL.nextEnd {k b p : Nat} {s : ByteArray} (hS : ST w0 M w hp) (hk : hp[k]? = some (.obj b (.stringIter s p))) (hx : ev l x = some (.pointer (some ⟨b, 0, none⟩))) (hps : ¬ p < s.size) (hd : Nat.blt d n.tmps = true)
    (K : WL P n ops Q rest ((d, .tuple #[.bool false]) :: l) w) :
    WL P n ops Q (⟨some d, .next x true, ty, pos, af, none⟩ :: rest) l w := by
  have hb : w.heap[b]? = some (.stringIter s p) := hS.at_ hk
  refine WL.wv (w' := w) (fun ρ hρ => ?_) hd K
  simp only [execOp, hρ _ _ hx, Instr.next, getObj, setObj, Sem.run_bind, Sem.run, hb, Result.andThen, hps, if_false]
  rfl
end
end Go.Eng
