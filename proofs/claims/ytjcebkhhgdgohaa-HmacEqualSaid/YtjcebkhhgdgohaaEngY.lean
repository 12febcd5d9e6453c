/- The engine: rules by which a run of a function is read off, part Y. -/
import Derived.Test.YtjcebkhhgdgohaaEngX
import Derived.SizedLaws
namespace Go.Eng
open Go Go.RowKit
/-- append, where only the length of what comes is asked. -/
theorem run_appendL {P : Program} {w : World} {T ty e : TypeId} {sz by_ N : Nat} {v x : Value} {xs ys : List Value} (hT : slT P T = some (e, sz, by_)) (hz : (zeroT P e).map List.length = some sz) (hsz : 0 < sz)
    (hv : Rw w v e sz xs) (hx : Rs w x sz ys) (h1 : ∀ u ∈ ys, u.oneCell' = true) (hN : xs.length + ys.length ≤ N * sz) (hb : N * by_ ≤ 140737488355328) (hN2 : N ≤ 9223372036854775807) {A0 : Option Addr} {n0 c0 m0 c1 : Nat} {A1 : Option Addr} (hv0 : v = .slice A0 n0 c0) (hx0 : x = .slice A1 m0 c1) :
    ∃ A' c' w', (Builtin.append_ #[T, T] ty #[v, x]).run P w = .ok (.slice A' (n0 + m0) c') w' ∧ Fr (fun b => v.ownBlock = some b) w w' := by
  unfold slT at hT
  cases hu : P.underlying T with
  | none => simp [hu] at hT
  | some u =>
  cases u <;> simp [hu] at hT
  obtain ⟨i, hi, rfl, rfl, rfl⟩ := hT
  rename_i e
  have hz' : ∃ z, i.zero = some z ∧ z.cells.size = i.size := by
    unfold zeroT at hz
    rw [hi] at hz
    cases hzz : i.zero with
    | none => simp [hzz] at hz
    | some z => exact ⟨z, rfl, by simpa [hzz] using hz⟩
  obtain ⟨z, hz1, hz2⟩ := hz'
  obtain ⟨A, m, c, hxe, hl, _⟩ := run_first (P := P) hx
  subst hxe
  injection hx0 with e1 e2 e3; subst e1; subst e2; subst e3
  have hf : ∀ w', Fr No w w' → (Builtin.firstCells i.size m (.slice A m c)).run P w' = .ok ys.toArray w' := by
    intro w' hw
    obtain ⟨A', m', c', he, hl', hr⟩ := run_first (P := P) (hx.no hw)
    injection he with e1 e2 e3; subst e1; subst e2; subst e3
    exact hr
  have zlen : ∀ n, (Builtin.zeroCells z.cells n).toList.length = n * i.size := fun n => by rw [size_zeros, hz2]
  -- a new block
  have grown : ∀ (n old : Nat), ∀ cap, cap = grownCap w (n + m) old e →
      Fr No w (w.drew.alloc (.cells (xs.toArray ++ ys.toArray ++ Builtin.zeroCells z.cells (cap - (n + m))) e)) := fun n old cap hcap =>
    (Fr.drew w).trans (Fr.alloc w.drew _) (fun _ _ h => h)
  rcases hv with ⟨hve, rfl⟩ | ⟨g, n, cap, sp, hve, hk, hn, hnc, hcm, hlen⟩
  · subst hve
    injection hv0 with e1 e2 e3; subst e1; subst e2; subst e3
    by_cases h0 : m = 0
    · subst h0
      have hy : ys = [] := List.eq_nil_of_length_eq_zero (by simpa using hl)
      subst hy
      refine ⟨none, 0, w, ?_, .refl _⟩
      have := hf w (.refl _)
      simp [Builtin.append_, run_underlying hu, sizeOf, typeInfo, hi, Builtin.lenOf, this]
    · have hm : ¬ m ≤ 0 := by omega
      have hmN : m ≤ N := by
        have : m * i.size ≤ N * i.size := by rw [← hl]; simpa using hN
        exact Nat.le_of_mul_le_mul_right this hsz
      have h63 : ¬ (9223372036854775807 < (m : Int)) := by omega
      have h48 : ¬ (281474976710656 < Builtin.nextslicecap m 0 * i.bytes) := by
        rw [nextslicecap_zero (by omega)]
        have : m * i.bytes ≤ N * i.bytes := Nat.mul_le_mul_right _ hmN
        omega
      have g1 := grown 0 0 _ rfl
      have hfd := hf w.drew (Fr.drew w)
      refine ⟨some ⟨w.heap.size, 0, none⟩, grownCap w (0 + m) 0 e, _, ?_, g1.no⟩
      simp [Builtin.append_, run_underlying hu, sizeOf, typeInfo, zeroValue, hi, hz1, Builtin.lenOf, h0, h63, h48, Question.forced, run_firstCells_none, hfd, newRow, grownCap]
  · subst hve
    injection hv0 with e1 e2 e3; subst e1; subst e2; subst e3
    have hnm : n + m ≤ N := by
      have : (n + m) * i.size ≤ N * i.size := by rw [Nat.add_mul, ← hn, ← hl]; exact hN
      exact Nat.le_of_mul_le_mul_right this hsz
    by_cases hroom : n + m ≤ cap
    · have hfw := hf w (.refl _)
      have hfit : n * i.size + ys.length ≤ (xs ++ sp).length := by rw [hlen, hl, ← Nat.add_mul]; exact Nat.mul_le_mul_right _ hroom
      have hst := run_storeCells_bk (P := P) g (n * i.size) e ys 0 (xs ++ sp) w hk (by simpa using hfit) h1
      simp only [Nat.add_zero] at hst
      refine ⟨some ⟨g, 0, none⟩, cap, w.setRow g ((xs ++ sp).take (n * i.size) ++ ys ++ (xs ++ sp).drop (n * i.size + ys.length)).toArray, ?_, Fr.setRow w g _ rfl⟩
      · simp [Builtin.append_, run_underlying hu, sizeOf, typeInfo, hi, Builtin.lenOf, hroom, hfw, add0, hst]
    · have hroom' : ¬ n + m ≤ cap := hroom
      have h63 : ¬ (9223372036854775807 < ((n : Int) + (m : Int))) := by omega
      have h48 : ¬ (281474976710656 < Builtin.nextslicecap (n + m) cap * i.bytes) := by
        have := growslice_fits (bytes := i.bytes) (old := cap) (need := n + m) (by omega) (by
          have : (n + m) * i.bytes ≤ N * i.bytes := Nat.mul_le_mul_right _ hnm
          omega)
        omega
      have g1 := grown n cap _ rfl
      have hfd := hf w.drew (Fr.drew w)
      have hold : (Builtin.firstCells i.size n (.slice (some ⟨g, 0, none⟩) n cap)).run P w.drew = .ok xs.toArray w.drew :=
        run_firstCells_some w.drew i.size n _ n cap xs hn (fun j u hu => by
          rw [add0, World.cell?_drew, hk.cell, Nat.zero_add, List.getElem?_append_left (getElem?_lt hu)]; exact hu)
      refine ⟨some ⟨w.heap.size, 0, none⟩, grownCap w (n + m) cap e, _, ?_, g1.no⟩
      simp [Builtin.append_, run_underlying hu, sizeOf, typeInfo, zeroValue, hi, hz1, Builtin.lenOf, hroom', h63, h48, Question.forced, hfd, hold, newRow, grownCap]
      congr 2
      apply Array.ext'
      simp [List.append_assoc]
section
variable {P : Program} {n : Md} {ops : Array Oper} {Q : QT} {rest : List Oper} {l : Env} {w w0 : World} {M : Nat → Prop} {hp : List Ent} {d : Nat} {ty : TypeId} {pos : String} {af : Array Edge} {T : TypeId} {x y : Operand}
theorem WL.appendL {k e sz by_ N n0 c0 m0 c1 : Nat} {A0 A1 : Option Addr} {xs ys : List Value} (hS : ST w0 M w hp) (hT : slT P T = some (e, sz, by_)) (hz : (zeroT P e).map List.length = some sz) (hsz : 0 < sz)
    (hx : ev l x = some (.slice A0 n0 c0)) (hk : hp[k]? = some (.row (.slice A0 n0 c0) e sz xs)) (hy : ev l y = some (.slice A1 m0 c1)) (hr : Rs w (.slice A1 m0 c1) sz ys) (h1 : ∀ u ∈ ys, u.oneCell' = true) (hN : xs.length + ys.length ≤ N * sz) (hb : N * by_ ≤ 140737488355328) (hN2 : N ≤ 9223372036854775807) (hd : Nat.blt d n.tmps = true)
    (K : ∀ A' c' w', ST w0 M w' [] → WL P n ops Q rest ((d, .slice A' (n0 + m0) c') :: l) w') :
    WL P n ops Q (⟨some d, .call { callee := .builtin .append, args := #[x, y], argTypes := #[T, T] }, ty, pos, af, none⟩ :: rest) l w := by
  obtain ⟨A', c', w', hrun, hf⟩ := run_appendL (P := P) (ty := ty) hT hz hsz (hS.at_ hk) hr h1 hN hb hN2 rfl rfl
  refine WL.wv (fun ρ hρ => ?_) hd (K A' c' w' ⟨hS.fr.trans hf (fun i hi hn => ?_), by simp, by simp, .nil⟩)
  · simp [execOp, resolve, invoke, builtin, hρ _ _ hx, hρ _ _ hy, hrun]
  · rcases hS.own' hk (b := i) hn with h2 | h2
    · omega
    · exact h2
/-- How long a slice that comes in may be. -/
theorem reach_of {H : Type} {enc : TypeId × Value → H} {base : Nat} {sp : Nat → Bool} {held : Bool} {ts : List TypeId} {ds : List (DataW H)} {j fuel len cap : Nat} {t e : TypeId} {dd : DataW H} {a : Option Addr} {p : List MemPlace}
    (hsz : (DataW.weightsEach P ts ds).all (· ≤ reachBytes) = true) (ht : ts[j]? = some t) (hd : ds[j]? = some dd) (hu : P.underlying t = some (.slice e)) (hb : P.bytesOf e = 1)
    (hf : DataW.trod enc P w base sp held fuel t [.slice a len cap] = some (dd, p)) : len ≤ 140737488351232 := by
  rcases DataW.trod_slice hu hf with ⟨hcs, _⟩ | ⟨a', len', cap', elems, rest, n', _, hcs, hx, _, _, _, hel, _⟩
  · injection hcs with hcs; injection hcs with _ h2 _; omega
  · injection hcs with hcs; injection hcs with _ h2 _
    injection hx with h3 _
    have := sized_slice hsz ht (hd.trans (congrArg some h3)) hu
    rw [hb, List.length_map, List.length_map] at this
    simp only [reachBytes] at this
    omega
end
end Go.Eng
