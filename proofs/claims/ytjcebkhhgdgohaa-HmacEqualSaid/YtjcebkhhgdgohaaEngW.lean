/- The engine: rules by which a run of a function is read off, part W. -/
import Derived.Test.YtjcebkhhgdgohaaEngV
import Derived.Deep.Slices
import Derived.OpenShut
namespace Go.Eng
open Go Go.RowKit Go.ChangeShapes Go.WideShapes
theorem flat_at {α : Type} {n : Nat} (hn : 0 < n) : ∀ (css : List (List α)) (_ : ∀ c ∈ css, c.length = n) (j : Nat), css.flatten[j]? = (css[j / n]?).bind (fun c => c[j % n]?)
  | [], _, j => by simp
  | c :: css, h, j => by
    have hc : c.length = n := h c (by simp)
    rw [List.flatten_cons]
    by_cases hj : j < n
    · rw [List.getElem?_append_left (by omega), Nat.div_eq_of_lt hj, Nat.mod_eq_of_lt hj]; simp
    · obtain ⟨i, rfl⟩ : ∃ i, j = i + n := ⟨j - n, by omega⟩
      rw [List.getElem?_append_right (by omega), hc, Nat.add_sub_cancel, flat_at hn css (fun c hc => h c (by simp [hc])), Nat.add_div_right _ hn, Nat.add_mod_right]
      simp
theorem flat_len {α : Type} {n : Nat} : ∀ (css : List (List α)) (_ : ∀ c ∈ css, c.length = n), css.flatten.length = css.length * n
  | [], _ => by simp
  | c :: css, h => by
    rw [List.flatten_cons, List.length_append, flat_len css (fun c hc => h c (by simp [hc])), h c (by simp), List.length_cons, Nat.succ_mul]; omega
theorem flat_at2 {α : Type} {n : Nat} {css : List (List α)} (h : ∀ c ∈ css, c.length = n) {i r : Nat} (hi : i < css.length) (hr : r < n) : css.flatten[i * n + r]? = (css[i])[r]? := by
  rw [flat_at (by omega) css h, Nat.mul_comm, Nat.mul_add_div (by omega), Nat.div_eq_of_lt hr, Nat.add_zero, List.getElem?_eq_getElem hi, Nat.mul_add_mod, Nat.mod_eq_of_lt hr]
  rfl
theorem flat_cut {α : Type} {n : Nat} : ∀ (css : List (List α)) (_ : ∀ c ∈ css, c.length = n) (a : Nat), css.flatten.drop (a * n) = (css.drop a).flatten
  | [], _, a => by simp
  | c :: css, h, 0 => by simp
  | c :: css, h, a + 1 => by
    rw [List.flatten_cons, Nat.succ_mul, Nat.add_comm, ← List.drop_drop, ← h c (by simp), List.drop_left, h c (by simp), flat_cut css (fun c hc => h c (by simp [hc]))]; simp
theorem flat_take {α : Type} {n : Nat} : ∀ (css : List (List α)) (_ : ∀ c ∈ css, c.length = n) (a : Nat), css.flatten.take (a * n) = (css.take a).flatten
  | [], _, a => by simp
  | c :: css, h, 0 => by simp
  | c :: css, h, a + 1 => by
    rw [List.flatten_cons, Nat.succ_mul, Nat.add_comm, ← h c (by simp), List.take_length_add_append, h c (by simp), flat_take css (fun c hc => h c (by simp [hc]))]; simp
section
variable {H : Type} {enc : TypeId × Value → H} {P : Program} {w : World} {base : Nat}
/-- Elements that came in, each as its cells. -/
theorem elems_of_trod {t e : TypeId} {fuel : Nat} {v : Value} {x : DataW H × List MemPlace} (ht : P.underlying t = some (.slice e)) (hpos : 0 < P.cellsOf e)
    (h : DataW.trod enc P w base (fun _ => true) true fuel t [v] = some x) :
    ∃ css : List (List Value), Rs w v (P.cellsOf e) css.flatten ∧ (∃ A c, v = .slice A css.length c) ∧ ∀ c ∈ css, c.length = P.cellsOf e ∧ ∃ f y, DataW.trod enc P w base (fun _ => true) true f e c = some y := by
  rcases DataW.trod_slice ht h with ⟨hcs, _⟩ | ⟨a, len, cap, elems, rest, n, _, hcs, _, _, hl, hm, hel, hx, _, _⟩
  · injection hcs with hcs; subst hcs
    exact ⟨[], ⟨none, 0, 0, rfl, Nat.le_refl _, by simp [maxLen], by simp, .inl rfl⟩, ⟨none, 0, rfl⟩, by simp⟩
  · injection hcs with hcs; subst hcs
    have hb : ∀ i, i < len → ∃ cs, w.cells? base (a.add (i * P.cellsOf e)) (P.cellsOf e) = some cs ∧ ∃ y, DataW.trod enc P w base (fun _ => true) true n e cs = some y := by
      intro i hi
      have h1 := hx i hi
      rw [List.getElem?_eq_getElem (by omega)] at h1
      obtain ⟨cs, h2, h3⟩ := Option.bind_eq_some_iff.1 h1
      exact ⟨cs, h2, _, h3⟩
    obtain ⟨f, hf⟩ := Go.Deep.choose_lt (α := List Value) hb
    have hlen : ∀ c ∈ (List.range len).map f, c.length = P.cellsOf e := by
      intro c hc
      obtain ⟨i, hi, rfl⟩ := List.mem_map.1 hc
      exact (World.cells?_some (hf i (List.mem_range.1 hi)).1).2.1
    refine ⟨(List.range len).map f, ⟨some a, len, cap, rfl, hl, hm, by rw [flat_len _ hlen]; simp, ?_⟩, ⟨some a, cap, by simp⟩, fun c hc => ⟨hlen c hc, ?_⟩⟩
    · by_cases h0 : 0 < len
      · obtain ⟨b, off, spot⟩ := a
        have hc0 : ∀ i r, i < len → r < P.cellsOf e → w.cell? (((⟨b, off, spot⟩ : Addr).add (i * P.cellsOf e)).add r) = (f i)[r]? := fun i r hi hr => (World.cells?_some (hf i hi).1).2.2 r hr
        have hspot : spot = none := by
          have h1 := hc0 0 0 h0 hpos
          have h2 : (f 0).length = P.cellsOf e := (World.cells?_some (hf 0 h0).1).2.1
          rw [List.getElem?_eq_getElem (by omega)] at h1
          simpa [Addr.add] using World.cell?_spot h1
        subst hspot
        refine .inr ⟨b, off, rfl, fun j u hu => ?_⟩
        have hj := getElem?_lt hu
        rw [flat_len _ hlen] at hj
        simp only [List.length_map, List.length_range] at hj
        have hjd : j / P.cellsOf e < len := (Nat.div_lt_iff_lt_mul hpos).2 hj
        have hjm : j % P.cellsOf e < P.cellsOf e := Nat.mod_lt _ hpos
        rw [flat_at hpos _ hlen, List.getElem?_map, List.getElem?_range hjd] at hu
        have h1 := hc0 _ _ hjd hjm
        rw [add0, add0, Nat.add_assoc, Nat.mul_comm, Nat.div_add_mod] at h1
        rw [h1]; exact hu
      · exact .inl (by rw [show len = 0 from by omega]; simp)
    · obtain ⟨i, hi, rfl⟩ := List.mem_map.1 hc
      obtain ⟨y, hy⟩ := (hf i (List.mem_range.1 hi)).2
      exact ⟨n, y, hy⟩
theorem fld_of_trod {t : TypeId} {fs : Array Field} {fuel : Nat} {cs : List Value} {x : DataW H × List MemPlace} (ht : P.underlying t = some (.struct fs)) (h : DataW.trod enc P w base (fun _ => true) true fuel t cs = some x) :
    cs.length = P.cellsOf t ∧ ∀ (i : Nat) (f : Field), fs[i]? = some f → ∃ m y, DataW.trod enc P w base (fun _ => true) true m f.type ((cs.drop f.offset).take (P.cellsOf f.type)) = some y := by
  obtain ⟨xs, n, _, _, hl, hx, hf⟩ := DataW.trod_struct ht h
  refine ⟨hl, fun i f hi => ⟨n, ?_⟩⟩
  have hil : i < xs.length := by
    rw [hx]
    exact (Array.getElem?_eq_some_iff.1 hi).1
  exact ⟨xs[i], by rw [hf i f hi, List.getElem?_eq_getElem hil]⟩
theorem bs8_of : ∀ {cs : List Value}, (∀ v ∈ cs, ∃ b, v = b8 b) → ∃ bl, cs = bs8 bl
  | [], _ => ⟨[], rfl⟩
  | v :: cs, h => by
    obtain ⟨b, rfl⟩ := h v (by simp)
    obtain ⟨bl, rfl⟩ := bs8_of (cs := cs) fun u hu => h u (by simp [hu])
    exact ⟨b :: bl, rfl⟩
/-- An array of bytes that came in. -/
theorem arr8_of_trod {t e : TypeId} {n fuel : Nat} {cs : List Value} {x : DataW H × List MemPlace} (ht : P.underlying t = some (.array n e)) (he : P.underlying e = some (.int .u8)) (hc : P.cellsOf e = 1) (hn : P.cellsOf t = n)
    (h : DataW.trod enc P w base (fun _ => true) true fuel t cs = some x) : ∃ bl : List UInt8, bl.length = n ∧ cs = bs8 bl := by
  obtain ⟨xs, m, _, _, hl, hx, hf⟩ := DataW.trod_array ht h
  rw [hn] at hl
  obtain ⟨bl, rfl⟩ := bs8_of (cs := cs) fun v hv => by
    obtain ⟨i, hi, rfl⟩ := List.getElem_of_mem hv
    have h1 := hf i (by omega)
    rw [hc, Nat.mul_one, List.getElem?_eq_getElem (by omega)] at h1
    obtain ⟨k, h2, _, h3⟩ := DataW.trod_int he h1
    rw [List.drop_eq_getElem_cons hi, List.take_succ_cons, List.take_zero] at h2
    injection h2 with h2
    exact ⟨_, by rw [h2, byteOf h3]⟩
  exact ⟨bl, by simpa [bs8_len] using hl, rfl⟩
theorem okWide_agg {r : Reach} {t : TypeId} {u : TypeDesc} {v : Value} (ht : P.underlying t = some u) (hu : (∃ n e, u = .array n e) ∨ ∃ fs, u = .struct fs) (h : Value.okWide P w r base t v) : ∃ cs : List Value, v = .agg cs.toArray := by
  unfold Value.okWide at h
  rw [ht] at h
  rcases hu with ⟨n, e, rfl⟩ | ⟨fs, rfl⟩
  · obtain ⟨cs, rfl, _⟩ := h; exact ⟨cs.toList, by simp⟩
  · obtain ⟨cs, rfl, _⟩ := h; exact ⟨cs.toList, by simp⟩
end
end Go.Eng
