/- What a few functions of the program compute, part W4. -/
import Derived.Test.YtjcebkhhgdgohaaW3
namespace Go.Proofs.Ytjcebkhhgdgohaa
open Go Go.RowKit Go.Eng
theorem cf_101 : callable Try.prog 101 = true := by kernel_rfl
theorem fldT_132_2 : fldT Try.prog 132 2 = some 9 := by kernel_rfl
theorem fldT_132_3 : fldT Try.prog 132 3 = some 10 := by kernel_rfl
theorem oneT_22 : oneT Try.prog 22 = true := by kernel_rfl
theorem oneT_86 : oneT Try.prog 86 = true := by kernel_rfl
theorem sizeT_22 : sizeT Try.prog 22 = some 1 := by kernel_rfl
theorem sizeT_86 : sizeT Try.prog 86 = some 1 := by kernel_rfl
theorem zeroT_5 : zeroT Try.prog 5 = some ([b8 0]) := by kernel_rfl
theorem zlenT_5 : (zeroT Try.prog 5).map List.length = some 1 := by kernel_rfl

/-- One byte taken: the words and the bytes that wait. -/
def tk (K : Nat → UInt32) (s : (Nat → UInt32) × List UInt8) (c : UInt8) : (Nat → UInt32) × List UInt8 :=
  if (s.2 ++ [c]).length = 64 then (fullH K s.1 (s.2 ++ [c]), []) else (s.1, s.2 ++ [c])
def tks (K : Nat → UInt32) (s : (Nat → UInt32) × List UInt8) (bl : List UInt8) : (Nat → UInt32) × List UInt8 := bl.foldl (tk K) s
theorem tks_snoc (K : Nat → UInt32) (s : (Nat → UInt32) × List UInt8) (l : List UInt8) (c : UInt8) : tks K s (l ++ [c]) = tk K (tks K s l) c := by simp [tks]
theorem tks_app (K : Nat → UInt32) (s : (Nat → UInt32) × List UInt8) (l m : List UInt8) : tks K s (l ++ m) = tks K (tks K s l) m := by simp [tks]
theorem tk_lt (K : Nat → UInt32) (s : (Nat → UInt32) × List UInt8) (c : UInt8) (h : s.2.length < 64) : (tk K s c).2.length < 64 := by
  unfold tk
  split
  · simp
  · rename_i h1; simp at h1 ⊢; omega
theorem tks_lt (K : Nat → UInt32) (s : (Nat → UInt32) × List UInt8) (h : s.2.length < 64) (l : List UInt8) : (tks K s l).2.length < 64 := by
  induction l generalizing s with
  | nil => exact h
  | cons c l ih => exact ih (tk K s c) (tk_lt K s c h)
theorem take_snoc {l : List UInt8} {k : Nat} (h : k < l.length) : l.take (k + 1) = l.take k ++ [l[k]] := by rw [List.take_succ_eq_append_getElem h]
def TakePost (bd : Nat) (sv wv : Value) (K : Nat → UInt32) (s : (Nat → UInt32) × List UInt8) (n : UInt64) (bl : List UInt8) (w0 : World) (e : Ending) (w : World) : Prop :=
  e = .returned (.tuple #[]) ∧ Fr (fun b => b = bd ∨ wv.ownBlock = some b) w0 w ∧ ∃ wv', Bk w bd 132 (dg sv (tks K s bl).1 wv' (n + UInt64.ofNat bl.length)) ∧ Rw w wv' 5 1 (bs8 (tks K s bl).2) ∧
    (∀ b, wv'.ownBlock = some b → wv.ownBlock = some b ∨ w0.heap.size ≤ b)

set_option maxHeartbeats 1000000 in
set_option maxRecDepth 100000 in
theorem take_c (bd bs m c : Nat) (A : Option Addr) (K : Nat → UInt32) (s : (Nat → UInt32) × List UInt8) (wv : Value) (n : UInt64) (bl : List UInt8) (w0 : World) (hd : Bk w0 bd 132 (dg (.pointer (some ⟨bs, 0, none⟩)) s.1 wv n))
    (hw : Rw w0 wv 5 1 (bs8 s.2)) (hs : s.2.length < 64)
    (hK : ∀ j u, (cells 64 K)[j]? = some u → w0.cell? ⟨bs, 0 + 8 + j, none⟩ = some u) (hbs : ¬ (bs = bd ∨ wv.ownBlock = some bs)) (hb : Rs w0 (.slice A m c) 1 (bs8 bl)) (hm : m = bl.length) (hA : 0 < bl.length → ∀ a, A = some a → ¬ (a.block = bd ∨ wv.ownBlock = some a.block)) :
    Calls Try.prog 80 #[.pointer (some ⟨bd, 0, none⟩), .slice A m c] w0 (TakePost bd (.pointer (some ⟨bs, 0, none⟩)) wv K s n bl w0) := by
  have hmx : m ≤ 9223372036854775807 := by have := hb.len; simp only [maxLen] at this; omega
  refine calls_of_WC (args := [.pointer (some ⟨bd, 0, none⟩), .slice A m c]) Try.func80 rfl Try.ntmps80 rfl ?_
  show WC _ _ _ _ [(0, .pointer (some ⟨bd, 0, none⟩)), (1, .slice A m c)] _
  have hS : ST w0 (fun b => b = bd ∨ wv.ownBlock = some b) w0 [.blk bd 132 (dg (.pointer (some ⟨bs, 0, none⟩)) s.1 wv n), .row wv 5 1 (bs8 s.2)] := ST.both hd hw (fun b hb => .inl (by simpa [Ent.block] using hb.symm)) (fun b hb => .inr hb) (fun b hb => by have := hw.ne hd (by decide); simp [Ent.block] at hb; subst hb; exact this)
  refine WC.seq ?_
  refine WC.seq ?_
  refine WC.region ?_
  refine WL.pv (pv_move rfl) rfl ?_
  refine WL.pv (pv_len slS_22 rfl) rfl ?_
  refine WL.pv (pv_move rfl) rfl ?_
  refine WL.nil ?_
  refine QN.thenW ?_
  refine WC.block ?_
  refine WC.loop (α := Nat) (fun k => [(0, .pointer (some ⟨bd, 0, none⟩)), (1, .slice A m c), (6, .slice A m c), (7, .int .i64 (m : Int)), (8, .int .i64 (k : Int))]) (fun k w => k ≤ m ∧ ∃ v, ST w0 (fun b => b = bd ∨ wv.ownBlock = some b) w [.blk bd 132 (dg (.pointer (some ⟨bs, 0, none⟩)) (tks K s (bl.take k)).1 v n), .row v 5 1 (bs8 (tks K s (bl.take k)).2)]) (fun k => m - k) (0) (Sub.cons rfl (Sub.cons rfl (Sub.cons rfl (Sub.cons rfl (Sub.cons rfl Sub.nil))))) ⟨by omega, wv, hS⟩ ?_
  rintro k w N hN hR
  obtain ⟨hk, v, hS⟩ := hR
  refine WC.seq ?_
  refine WC.region ?_
  refine WL.pv (pv_lss rfl rfl) rfl ?_
  refine WL.nil ?_
  refine QN.thenW ?_
  refine WC.seq ?_
  refine WC.condD rfl (fun hc9 => ?_) (fun hc9 => ?_)
  · skip
    have hkm : k < m := by omega
    obtain ⟨bb, o, rfl, _, hc1, hc2, hcell⟩ := hb.at_ (by rw [bs8_len]; omega)
    have hbb := hA (by omega) _ rfl
    have hlt := tks_lt K s hs (bl.take k)
    have hsn := tks_snoc K s (bl.take k) (bl[k]'(by omega))
    rw [← take_snoc (by omega)] at hsn
    generalize hT : tks K s (bl.take k) = T at hS hlt hsn
    obtain ⟨H, wt⟩ := T
    generalize hcc : bl[k]'(by omega) = ch at hsn
    refine WC.skip ?_
    refine QN.thenW ?_
    refine WC.seq ?_
    refine WC.block ?_
    refine WC.seq ?_
    refine WC.region ?_
    refine WL.pv (pv_indexAddrS1 slT_22 rfl rfl rfl (by omega)) rfl ?_
    refine WL.rv (rv_load oneT_5 rfl (hS.fr.cellS (hcell k _ (by rw [bs8_at (by omega), hcc])) (by simpa using hbb))) rfl ?_
    refine WL.pv (pv_assign rfl) rfl ?_
    refine WL.nil ?_
    refine QN.thenW ?_
    refine WC.seq ?_
    refine WC.region ?_
    refine WL.pv (pv_move rfl) rfl ?_
    refine WL.pv (pv_move rfl) rfl ?_
    refine WL.pv (pv_nil rfl) rfl ?_
    refine WL.pv (pv_fieldAddrZ fldT_132_2 rfl) rfl ?_
    refine WL.rv (rv_load_blk (k := 0) hS oneT_22 rfl rfl rfl) rfl ?_
    refine WL.pv (pv_move rfl) rfl ?_
    refine WL.build1 hS slT_22 zeroT_5 rfl rfl rfl rfl ?_
    intro b18 w hb18 hS
    refine WL.append (k := 2) (N := 65536) hS slT_22 zlenT_5 (by decide) rfl rfl rfl ((hS.bk (k := 0) rfl).rs 0 1 1 1 (by omega) (by simp [maxLen]) (by simp)) (by simp [Value.oneCell']) (by simp only [bs8_len, List.drop_zero, List.length_take, List.length_cons, List.length_nil]; simp only at hlt; omega) (by omega) (by simp [maxLen]) rfl ?_
    intro v1 w hFr19 hS
    try simp only [List.set] at hS
    rw [show List.take (1 * 1) (List.drop 0 [b8 ch]) = [b8 ch] from rfl, bs8_snoc] at hS
    obtain ⟨g, m1, cap, rfl, hm1, hcap, hmx⟩ := (hS.rw_ (k := 2) rfl).form8 (by simp)
    refine WL.pv (pv_nil rfl) rfl ?_
    refine WL.pv (pv_fieldAddrZ fldT_132_2 rfl) rfl ?_
    refine WL.store (k := 1) hS sizeT_22 rfl rfl rfl rfl (by rw [dg_len]; omega) ?_
    intro w hS
    try simp only [List.set] at hS
    replace hS := hS.erase 0
    simp only [List.eraseIdx_zero, List.tail_cons] at hS
    change ST w0 _ w [Ent.blk bd 132 (dg (.pointer (some ⟨bs, 0, none⟩)) H (.slice (some ⟨g, 0, none⟩) m1 cap) n), _] at hS
    refine WL.nil ?_
    refine QN.thenW ?_
    refine WC.seq ?_
    refine WC.region ?_
    refine WL.pv (pv_move rfl) rfl ?_
    refine WL.pv (pv_nil rfl) rfl ?_
    refine WL.pv (pv_fieldAddrZ fldT_132_2 rfl) rfl ?_
    refine WL.rv (rv_load_blk (k := 0) hS oneT_22 rfl rfl rfl) rfl ?_
    refine WL.pv (pv_len slS_22 rfl) rfl ?_
    refine WL.pv (pv_eql rfl rfl) rfl ?_
    refine WL.nil ?_
    refine QN.thenW ?_
    refine WC.condD rfl (fun hc27 => ?_) (fun hc27 => ?_)
    · skip
      obtain rfl : m1 = 64 := by omega
      have h64 : (wt ++ [ch]).length = 64 := by omega
      have hgd : ¬ g = bd := fun e => (hS.sep' (i := 0) (j := 1) rfl rfl (by omega) (b := bd) rfl) (by simp [Ent.block, Value.ownBlock, e])
      have hKg : ∀ j u, (cells 64 K)[j]? = some u → w.cell? ⟨bs, 0 + 8 + j, none⟩ = some u := fun j u hu => hS.fr.cellS (hK j u hu) hbs
      refine WC.seq ?_
      refine WC.region ?_
      refine WL.pv (pv_move rfl) rfl ?_
      refine WL.pv (pv_move rfl) rfl ?_
      refine WL.pv (pv_nil rfl) rfl ?_
      refine WL.pv (pv_fieldAddrZ fldT_132_2 rfl) rfl ?_
      refine WL.rv (rv_load_blk (k := 0) hS oneT_22 rfl rfl rfl) rfl ?_
      refine WL.call (args := [.tmp 28, .tmp 32]) cf_101 rfl rfl (full_c bd bs cap (some ⟨g, 0, none⟩) K H _ n (wt ++ [ch]) _ (hS.bk (k := 0) rfl) hKg (fun e => hbs (.inl e)) (hS.rw_ (k := 1) rfl).rs h64 (fun a ha => by injection ha with ha; subst ha; exact hgd)) ?_
      rintro _ w ⟨rfl, hF, hB⟩
      refine ⟨_, rfl, ?_⟩
      replace hS := hS.updB (k := 0) rfl hF hB
      simp only [List.set] at hS
      refine WL.nil ?_
      refine QN.thenW ?_
      refine WC.region ?_
      refine WL.pv (pv_move rfl) rfl ?_
      refine WL.pv (pv_move rfl) rfl ?_
      refine WL.pv (pv_nil rfl) rfl ?_
      refine WL.pv (pv_fieldAddrZ fldT_132_2 rfl) rfl ?_
      refine WL.rv (rv_load_blk (k := 0) hS oneT_22 rfl rfl rfl) rfl ?_
      refine WL.pv (pv_sliceH (b := 0) slT_22 rfl rfl rfl (by omega)) rfl ?_
      refine WL.pv (pv_nil rfl) rfl ?_
      refine WL.pv (pv_fieldAddrZ fldT_132_2 rfl) rfl ?_
      refine WL.store (k := 0) hS sizeT_22 rfl rfl rfl rfl (by rw [dg_len]; omega) ?_
      intro w hS
      try simp only [List.set] at hS
      replace hS := hS.cut0 (k := 1) rfl
      simp only [List.set] at hS
      change ST w0 _ w [Ent.blk bd 132 (dg (.pointer (some ⟨bs, 0, none⟩)) (fullH K H (wt ++ [ch])) (.slice (some ⟨g, 0, none⟩) 0 cap) n), _] at hS
      have e1 : tks K s (bl.take (k + 1)) = (fullH K H (wt ++ [ch]), []) := by rw [hsn, tk, if_pos h64]
      rw [show fullH K H (wt ++ [ch]) = (tks K s (bl.take (k + 1))).1 from by rw [e1], ← bs8_nil, show ([] : List UInt8) = (tks K s (bl.take (k + 1))).2 from by rw [e1]] at hS
      refine WL.nil ?_
      refine QN.blockN ?_
      refine QN.thenW ?_
      first
        | (have e1 : tks K s (bl.take (k + 1)) = (H, wt ++ [ch]) := by rw [hsn, tk, if_neg h64]
           change ST w0 _ w [Ent.blk bd 132 (dg (.pointer (some ⟨bs, 0, none⟩)) (H, wt ++ [ch]).1 _ n), Ent.row _ 5 1 (bs8 (H, wt ++ [ch]).2)] at hS
           rw [← e1] at hS)
        | skip
      refine WC.region ?_
      refine WL.pv (pv_add rfl rfl (by omega)) rfl ?_
      refine WL.pv (pv_move rfl) rfl ?_
      refine WL.nil ?_
      refine QN.roundE ?_
      refine ⟨(k + 1), (Sub.cons rfl (Sub.cons rfl (Sub.cons rfl (Sub.cons rfl (Sub.cons rfl Sub.nil))))), ⟨by omega, _, hS⟩, ?_⟩
      first | omega | (dsimp only; omega)
    · skip
      have h64 : ¬ (wt ++ [ch]).length = 64 := by omega
      refine WC.skip ?_
      refine QN.blockN ?_
      refine QN.thenW ?_
      first
        | (have e1 : tks K s (bl.take (k + 1)) = (H, wt ++ [ch]) := by rw [hsn, tk, if_neg h64]
           change ST w0 _ w [Ent.blk bd 132 (dg (.pointer (some ⟨bs, 0, none⟩)) (H, wt ++ [ch]).1 _ n), Ent.row _ 5 1 (bs8 (H, wt ++ [ch]).2)] at hS
           rw [← e1] at hS)
        | skip
      refine WC.region ?_
      refine WL.pv (pv_add rfl rfl (by omega)) rfl ?_
      refine WL.pv (pv_move rfl) rfl ?_
      refine WL.nil ?_
      refine QN.roundE ?_
      refine ⟨(k + 1), (Sub.cons rfl (Sub.cons rfl (Sub.cons rfl (Sub.cons rfl (Sub.cons rfl Sub.nil))))), ⟨by omega, _, hS⟩, ?_⟩
      first | omega | (dsimp only; omega)
  · skip
    obtain rfl : k = m := by omega
    refine WC.exit ?_
    refine QN.thenX ?_
    refine QN.thenX ?_
    refine QN.blockX ?_
    refine QN.thenW ?_
    refine WC.region ?_
    refine WL.pv (pv_move rfl) rfl ?_
    refine WL.pv (pv_nil rfl) rfl ?_
    refine WL.pv (pv_fieldAddrZ fldT_132_3 rfl) rfl ?_
    refine WL.rv (rv_load_blk (k := 0) hS oneT_86 rfl rfl rfl) rfl ?_
    refine WL.pv (pv_move rfl) rfl ?_
    refine WL.pv (pv_len slS_22 rfl) rfl ?_
    refine WL.pv (pv_conv someT_3 Try.underlying86 rfl (cv_i_64 _)) rfl ?_
    refine WL.pv (pv_add64 rfl rfl) rfl ?_
    refine WL.pv (pv_nil rfl) rfl ?_
    refine WL.pv (pv_fieldAddrZ fldT_132_3 rfl) rfl ?_
    refine WL.store (k := 0) hS sizeT_86 rfl rfl rfl rfl (by rw [dg_len]; omega) ?_
    intro w hS
    try simp only [List.set] at hS
    refine WL.nil ?_
    refine QN.end0 rfl ?_
    have hw' := hS.rw_ (k := 1) rfl
    have hd' := hS.bk (k := 0) rfl
    refine ⟨rfl, hS.fr, v, ?_, ?_, ?_⟩
    · rw [List.take_of_length_le (by omega), hm] at hd'; exact hd'
    · rw [List.take_of_length_le (by omega)] at hw'; exact hw'
    · intro b hb'
      rcases hS.own' (i := 1) rfl hb' with h | h | h
      · exact .inr h
      · exact absurd hb' (hS.sep' (i := 0) (j := 1) rfl rfl (by omega) (b := b) (by rw [h]; rfl))
      · exact .inl h

end Go.Proofs.Ytjcebkhhgdgohaa
