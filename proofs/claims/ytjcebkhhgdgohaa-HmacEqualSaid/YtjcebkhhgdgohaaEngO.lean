/- The engine: rules by which a run of a function is read off, part O. -/
import Derived.Test.YtjcebkhhgdgohaaEngN
import Derived.OpenShut
namespace Go.Eng
open Go Go.RowKit
theorem byteOf {n : Int} (h : (Lit.int .u8 n).wf = true) : n = ((UInt8.ofNat n.toNat).toNat : Int) := by
  have h2 := Go.bounds_u8 h
  rw [UInt8.toNat_ofNat']
  omega
/-- Bytes that came in, as the frame of a law tells them. -/
theorem rs_of_row {w : World} {a : Option Addr} {len cap : Nat} {zs : List Int} (h : (a = none ∧ len = 0 ∧ cap = 0 ∧ zs = []) ∨
    ∃ x, a = some x ∧ len ≤ cap ∧ cap ≤ maxLen ∧ zs.length = cap ∧ (∀ i, i < zs.length → w.cell? (x.add i) = some (.int .u8 (zs.getD i 0))) ∧ ∀ n ∈ zs, (Lit.int .u8 n).wf = true) :
    ∃ bl, Rs w (.slice a len cap) 1 (bs8 bl) := by
  rcases h with ⟨rfl, rfl, rfl, rfl⟩ | ⟨x, rfl, h1, h2, h3, h4, h5⟩
  · exact ⟨[], none, 0, 0, rfl, Nat.le_refl _, by simp [maxLen], by simp [bs8], .inl rfl⟩
  · refine ⟨(zs.take len).map fun n => UInt8.ofNat n.toNat, some x, len, cap, rfl, h1, h2, by simp [bs8_len]; omega, ?_⟩
    by_cases h0 : 0 < zs.length
    · obtain ⟨b, off, rfl, hc⟩ := ints_at h4 h0
      refine .inr ⟨b, off, rfl, fun j u hu => ?_⟩
      have hj := getElem?_lt hu
      rw [bs8_len, List.length_map, List.length_take] at hj
      have hjz : j < zs.length := by omega
      have hb := byteOf (h5 zs[j] (List.getElem_mem hjz))
      rw [hc j hjz]
      rw [bs8_at (by simp; omega)] at hu
      rw [← hu]
      simp only [List.getElem_map, List.getElem_take, b8, List.getD_eq_getElem?_getD, List.getElem?_eq_getElem hjz, Option.getD_some]
      rw [← hb]
    · refine .inl ?_
      have : zs = [] := List.eq_nil_of_length_eq_zero (by omega)
      subst this
      simp [bs8]
end Go.Eng
