/- What a few functions of the program compute, part W5. -/
import Derived.Test.YtjcebkhhgdgohaaW4
namespace Go.Proofs.Ytjcebkhhgdgohaa
open Go Go.RowKit Go.Eng
theorem aggT_25 : aggT Try.prog 25 = some 32 := by kernel_rfl
theorem arrT_158 : arrT Try.prog 158 = some (8, 1) := by kernel_rfl
theorem arrT_25 : arrT Try.prog 25 = some (32, 1) := by kernel_rfl
theorem cf_102 : callable Try.prog 102 = true := by kernel_rfl
theorem cf_80 : callable Try.prog 80 = true := by kernel_rfl
theorem sizeT_25 : sizeT Try.prog 25 = some 32 := by kernel_rfl
theorem sizeT_5 : sizeT Try.prog 5 = some 1 := by kernel_rfl
theorem someT_86 : (Try.prog.underlying 86).isSome = true := by kernel_rfl
theorem someT_91 : (Try.prog.underlying 91).isSome = true := by kernel_rfl
theorem zeroT_158 : zeroT Try.prog 158 = some (List.replicate 8 (b8 0)) := by kernel_rfl
theorem zeroT_25 : zeroT Try.prog 25 = some (List.replicate 32 (b8 0)) := by kernel_rfl

/-- A row of bytes on its way: the first k are f's. -/
def fillB (f : Nat → UInt8) (N k : Nat) : List UInt8 := (List.range N).map fun j => if j < k then f j else 0
theorem fillB_len (f : Nat → UInt8) (N k : Nat) : (fillB f N k).length = N := by simp [fillB]
theorem fillB_zero (f : Nat → UInt8) (N : Nat) : fillB f N 0 = List.replicate N 0 := by
  apply List.ext_getElem <;> simp [fillB]
theorem fillB_all (f : Nat → UInt8) (N : Nat) : fillB f N N = (List.range N).map f := by
  apply List.ext_getElem
  · simp [fillB]
  · intro i h1 h2; simp [fillB] at h1 ⊢; omega
theorem fillB_set (f : Nat → UInt8) {N k : Nat} : (fillB f N k).set k (f k) = fillB f N (k + 1) := by
  apply List.ext_getElem
  · simp [fillB]
  · intro i h1 h2
    simp only [fillB, List.getElem_set, List.getElem_map, List.getElem_range]
    by_cases h : k = i
    · subst h; simp
    · rw [if_neg h]
      by_cases h3 : i < k
      · rw [if_pos h3, if_pos (by omega)]
      · rw [if_neg h3, if_neg (by omega)]
theorem bs8_rep (n : Nat) : List.replicate n (b8 0) = bs8 (List.replicate n 0) := by simp [bs8]
def tailB (n : UInt64) : List UInt8 := (List.range 8).map fun i => (rotl64 n (8 * (i + 1))).toUInt8
def outB (h : Nat → UInt32) : List UInt8 := (List.range 32).map fun i => (rotl (h (i / 4)) (8 * (i % 4 + 1))).toUInt8
theorem tks_len (K : Nat → UInt32) (s : (Nat → UInt32) × List UInt8) (hs : s.2.length < 64) (l : List UInt8) : (tks K s l).2.length = (s.2.length + l.length) % 64 := by
  induction l generalizing s with
  | nil => simp [tks]; omega
  | cons c l ih =>
    have h := ih (tk K s c) (tk_lt K s c hs)
    have e : tks K s (c :: l) = tks K (tk K s c) l := by simp [tks]
    rw [e, h]
    have h2 : (tk K s c).2.length = (s.2.length + 1) % 64 := by
      unfold tk
      split
      · rename_i h1; simp at h1; simp [h1]
      · rename_i h1; simp at h1 ⊢; omega
    rw [h2]; simp; omega
/-- The zeros behind the mark. -/
def zeroN (K : Nat → UInt32) (s : (Nat → UInt32) × List UInt8) : Nat := (120 - (tks K s [128]).2.length) % 64
def finK (K : Nat → UInt32) (s : (Nat → UInt32) × List UInt8) (n : UInt64) : List UInt8 :=
  outB (tks K (tks K (tks K s [128]) (List.replicate (zeroN K s) 0)) (tailB n)).1
def EndPost (bd : Nat) (wv : Value) (K : Nat → UInt32) (s : (Nat → UInt32) × List UInt8) (n : UInt64) (w0 : World) (e : Ending) (w : World) : Prop :=
  e = .returned (.agg (bs8 (finK K s (n * 8))).toArray) ∧ Fr (fun b => b = bd ∨ wv.ownBlock = some b) w0 w

set_option maxHeartbeats 1000000 in
set_option maxRecDepth 100000 in
theorem end_c (bd bs : Nat) (K : Nat → UInt32) (s : (Nat → UInt32) × List UInt8) (wv : Value) (n : UInt64) (w0 : World) (hd : Bk w0 bd 132 (dg (.pointer (some ⟨bs, 0, none⟩)) s.1 wv n))
    (hw : Rw w0 wv 5 1 (bs8 s.2)) (hs : s.2.length < 64)
    (hK : ∀ j u, (cells 64 K)[j]? = some u → w0.cell? ⟨bs, 0 + 8 + j, none⟩ = some u) (hbs : ¬ (bs = bd ∨ wv.ownBlock = some bs)) :
    Calls Try.prog 81 #[.pointer (some ⟨bd, 0, none⟩)] w0 (EndPost bd wv K s n w0) := by
  have hbsl : bs < w0.heap.size := World.block_lt_of_cell? w0 _ (hK 0 _ (cells_at K (by omega)))
  have hbs3 : ∀ {b : Nat} {v : Value}, (b = bd ∨ v.ownBlock = some b) → ¬ b = bd → (v.ownBlock = some b → w0.heap.size ≤ b ∨ (b = bd ∨ wv.ownBlock = some b)) → b = bs → False := fun h h1 h2 h3 => by
    subst h3
    rcases h with h | h
    · exact h1 h
    · rcases h2 h with h4 | h4
      · omega
      · exact hbs h4
  refine calls_of_WC (args := [.pointer (some ⟨bd, 0, none⟩)]) Try.func81 rfl Try.ntmps81 rfl ?_
  show WC _ _ _ _ [(0, .pointer (some ⟨bd, 0, none⟩))] _
  have hS : ST w0 (fun b => b = bd ∨ wv.ownBlock = some b) w0 [.blk bd 132 (dg (.pointer (some ⟨bs, 0, none⟩)) s.1 wv n), .row wv 5 1 (bs8 s.2)] := ST.both hd hw (fun b hb => .inl (by simpa [Ent.block] using hb.symm)) (fun b hb => .inr hb) (fun b hb => by have := hw.ne hd (by decide); simp [Ent.block] at hb; subst hb; exact this)
  refine WC.seq ?_
  refine WC.region ?_
  refine WL.alloc hS zeroT_25 rfl ?_
  intro b2 w hb2 hS
  refine WL.nil ?_
  refine QN.thenW ?_
  refine WC.seq ?_
  refine WC.region ?_
  refine WL.pv (pv_move rfl) rfl ?_
  refine WL.pv (pv_nil rfl) rfl ?_
  refine WL.pv (pv_fieldAddrZ fldT_132_3 rfl) rfl ?_
  refine WL.rv (rv_load_blk (k := 1) hS oneT_86 rfl rfl rfl) rfl ?_
  refine WL.pv (pv_mul64 (b := 8) rfl rfl) rfl ?_
  refine WL.pv (pv_assign rfl) rfl ?_
  refine WL.nil ?_
  refine QN.thenW ?_
  refine WC.seq ?_
  refine WC.region ?_
  refine WL.pv (pv_move rfl) rfl ?_
  refine WL.build1 (v := b8 128) hS slT_22 zeroT_5 rfl rfl rfl rfl ?_
  intro b14 w hb14 hS
  refine WL.call (args := [.tmp 13, .tmp 14]) cf_80 rfl rfl (take_c bd bs 1 1 (some ⟨b14, 0, none⟩) K s _ _ [128] _ (hS.bk (k := 2) rfl) (hS.rw_ (k := 3) rfl) hs (fun j u hu => hS.fr.cellS (hK j u hu) hbs) hbs ((hS.bk (k := 0) rfl).rs 0 1 1 1 (by omega) (by simp [maxLen]) (by simp)) rfl (fun _ a ha => by injection ha with ha; subst ha; exact hap (k := 0) (i := 2) (j := 3) hS rfl rfl rfl (by omega) (by omega))) ?_
  rintro _ w ⟨rfl, hF, v1, hB, hR, hbl⟩
  refine ⟨_, rfl, ?_⟩
  replace hS := (hS.upd2 (i := 2) (j := 3) rfl rfl hF hB hR hbl).erase 0
  simp only [List.set, List.eraseIdx_zero, List.tail_cons] at hS
  refine WL.nil ?_
  refine QN.thenW ?_
  refine WC.seq ?_
  refine WC.block ?_
  refine WC.loop (α := Nat) (fun j => [(0, .pointer (some ⟨bd, 0, none⟩)), (2, .pointer (some ⟨b2, 0, none⟩)), (3, w64 (n * 8))]) (fun j w => j ≤ zeroN K s ∧ ∃ v n1, ST w0 (fun b => b = bd ∨ wv.ownBlock = some b) w [.blk b2 25 (List.replicate 32 (b8 0)), .blk bd 132 (dg (.pointer (some ⟨bs, 0, none⟩)) (tks K (tks K s [128]) (List.replicate j 0)).1 v n1), .row v 5 1 (bs8 (tks K (tks K s [128]) (List.replicate j 0)).2)]) (fun j => zeroN K s - j) (0) (Sub.cons rfl (Sub.cons rfl (Sub.cons rfl Sub.nil))) ⟨by omega, v1, _, hS⟩ ?_
  rintro j w N hN hR
  obtain ⟨hj, v, n1, hS⟩ := hR
  obtain ⟨A, m, cp, rfl, hm, _, hmx⟩ := (hS.rw_ (k := 2) rfl).anyForm
  have hln := tks_len K (tks K s [128]) (tks_lt K s hs _) (List.replicate j 0)
  rw [bs8_len, Nat.mul_one] at hm
  rw [List.length_replicate, hm] at hln
  have hlt := tks_lt K s hs [128]
  have hz : zeroN K s = (120 - (tks K s [128]).2.length) % 64 := rfl
  refine WC.seq ?_
  refine WC.seq ?_
  refine WC.region ?_
  refine WL.pv (pv_move rfl) rfl ?_
  refine WL.pv (pv_nil rfl) rfl ?_
  refine WL.pv (pv_fieldAddrZ fldT_132_2 rfl) rfl ?_
  refine WL.rv (rv_load_blk (k := 1) hS oneT_22 rfl rfl rfl) rfl ?_
  refine WL.pv (pv_len slS_22 rfl) rfl ?_
  refine WL.pv (pv_neq rfl rfl) rfl ?_
  refine WL.nil ?_
  refine QN.thenW ?_
  refine WC.condD rfl (fun hc21 => ?_) (fun hc21 => ?_)
  · skip
    have hjz : j < zeroN K s := by omega
    refine WC.skip ?_
    refine QN.thenW ?_
    refine WC.block ?_
    refine WC.region ?_
    refine WL.pv (pv_move rfl) rfl ?_
    refine WL.build1 (v := b8 0) hS slT_22 zeroT_5 rfl rfl rfl rfl ?_
    intro b23 w hb23 hS
    refine WL.call (args := [.tmp 22, .tmp 23]) cf_80 rfl rfl (take_c bd bs 1 1 (some ⟨b23, 0, none⟩) K (tks K (tks K s [128]) (List.replicate j 0)) _ n1 [0] _ (hS.bk (k := 2) rfl) (hS.rw_ (k := 3) rfl) (tks_lt K _ (tks_lt K s hs _) _) (fun j u hu => hS.fr.cellS (hK j u hu) hbs) (fun e => hbs3 (b := bs) e (fun h => hbs (.inl h)) (fun h => hS.own' (i := 3) rfl h) rfl) ((hS.bk (k := 0) rfl).rs 0 1 1 1 (by omega) (by simp [maxLen]) (by simp)) rfl (fun _ a ha => by injection ha with ha; subst ha; exact hap (k := 0) (i := 2) (j := 3) hS rfl rfl rfl (by omega) (by omega))) ?_
    rintro _ w ⟨rfl, hF, v2, hB, hR, hbl⟩
    refine ⟨_, rfl, ?_⟩
    replace hS := (hS.upd2 (i := 2) (j := 3) rfl rfl hF hB hR hbl).erase 0
    simp only [List.set, List.eraseIdx_zero, List.tail_cons] at hS
    rw [← tks_app, ← List.replicate_succ'] at hS
    refine WL.nil ?_
    refine QN.blockN ?_
    refine QN.roundE ?_
    refine ⟨(j + 1), (Sub.cons rfl (Sub.cons rfl (Sub.cons rfl Sub.nil))), ⟨by omega, _, _, hS⟩, ?_⟩
    first | omega | (dsimp only; omega)
  · skip
    obtain rfl : j = zeroN K s := by omega
    refine WC.exit ?_
    refine QN.thenX ?_
    refine QN.thenX ?_
    refine QN.blockX ?_
    refine QN.thenW ?_
    refine WC.seq ?_
    refine WC.region ?_
    refine WL.alloc hS zeroT_158 rfl ?_
    intro b4 w hb4 hS
    rw [bs8_rep, ← fillB_zero (fun i => (rotl64 (n * 8) (8 * (i + 1))).toUInt8) 8] at hS
    generalize hS2 : tks K (tks K s [128]) (List.replicate (zeroN K s) 0) = S2 at hS
    refine WL.nil ?_
    refine QN.thenW ?_
    refine WC.seq ?_
    refine WC.seq ?_
    refine WC.region ?_
    refine WL.pv (pv_move rfl) rfl ?_
    refine WL.nil ?_
    refine QN.thenW ?_
    refine WC.block ?_
    refine WC.loop (α := Nat) (fun k => [(0, .pointer (some ⟨bd, 0, none⟩)), (2, .pointer (some ⟨b2, 0, none⟩)), (3, w64 (n * 8)), (4, .pointer (some ⟨b4, 0, none⟩)), (25, .int .i64 (k : Int))]) (fun k w => k ≤ 8 ∧ ST w0 (fun b => b = bd ∨ wv.ownBlock = some b) w [.blk b4 158 (bs8 (fillB (fun i => (rotl64 (n * 8) (8 * (i + 1))).toUInt8) 8 k)), .blk b2 25 (List.replicate 32 (b8 0)), .blk bd 132 (dg (.pointer (some ⟨bs, 0, none⟩)) S2.1 (.slice A m cp) n1), .row (.slice A m cp) 5 1 (bs8 S2.2)]) (fun k => 8 - k) (0) (Sub.cons rfl (Sub.cons rfl (Sub.cons rfl (Sub.cons rfl (Sub.cons rfl Sub.nil))))) ⟨by omega, hS⟩ ?_
    rintro k w N hN hR
    obtain ⟨hk, hS⟩ := hR
    refine WC.seq ?_
    refine WC.region ?_
    refine WL.pv (pv_lss rfl rfl) rfl ?_
    refine WL.nil ?_
    refine QN.thenW ?_
    refine WC.seq ?_
    refine WC.condD rfl (fun hc26 => ?_) (fun hc26 => ?_)
    · skip
      have hk8 : k < 8 := by omega
      refine WC.skip ?_
      refine QN.thenW ?_
      refine WC.seq ?_
      refine WC.block ?_
      refine WC.seq ?_
      refine WC.region ?_
      refine WL.pv (pv_move rfl) rfl ?_
      refine WL.pv (pv_assign rfl) rfl ?_
      refine WL.nil ?_
      refine QN.thenW ?_
      refine WC.region ?_
      refine WL.pv (pv_move rfl) rfl ?_
      refine WL.pv (pv_move rfl) rfl ?_
      refine WL.pv (pv_move rfl) rfl ?_
      refine WL.pv (pv_add rfl rfl (by omega)) rfl ?_
      refine WL.pv (pv_mul rfl rfl (by omega)) rfl ?_
      refine WL.call (args := [.tmp 29, .tmp 32]) cf_102 rfl rfl (rotl64_c _ (8 * (k + 1)) _ (by omega)) ?_
      rintro _ _ ⟨rfl, rfl⟩
      refine ⟨_, rfl, ?_⟩
      refine WL.pv (pv_conv someT_86 Try.underlying5 rfl (cv_64_8 _)) rfl ?_
      refine WL.pv (pv_indexAddrA1Z arrT_158 rfl rfl rfl (by omega)) rfl ?_
      refine WL.store (k := 0) hS sizeT_5 rfl rfl rfl rfl (by rw [bs8_len, fillB_len]; omega) ?_
      intro w hS
      try simp only [List.set] at hS
      rw [bs8_set, fillB_set] at hS
      refine WL.nil ?_
      refine QN.blockN ?_
      refine QN.thenW ?_
      refine WC.region ?_
      refine WL.pv (pv_add rfl rfl (by omega)) rfl ?_
      refine WL.pv (pv_move rfl) rfl ?_
      refine WL.nil ?_
      refine QN.roundE ?_
      refine ⟨(k + 1), (Sub.cons rfl (Sub.cons rfl (Sub.cons rfl (Sub.cons rfl (Sub.cons rfl Sub.nil))))), ⟨by omega, hS⟩, ?_⟩
      first | omega | (dsimp only; omega)
    · skip
      obtain rfl : k = 8 := by omega
      refine WC.exit ?_
      refine QN.thenX ?_
      refine QN.thenX ?_
      refine QN.blockX ?_
      refine QN.thenW ?_
      refine WC.seq ?_
      refine WC.region ?_
      refine WL.pv (pv_move rfl) rfl ?_
      refine WL.pv (pv_sliceW arrT_158 rfl) rfl ?_
      rw [fillB_all] at hS
      refine WL.call (args := [.tmp 37, .tmp 38]) cf_80 rfl rfl (take_c bd bs 8 8 (some ⟨b4, 0, none⟩) K S2 _ n1 (tailB (n * 8)) _ (hS.bk (k := 2) rfl) (hS.rw_ (k := 3) rfl) (by rw [← hS2]; exact tks_lt K _ (tks_lt K s hs _) _) (fun j u hu => hS.fr.cellS (hK j u hu) hbs) (fun e => hbs3 (b := bs) e (fun h => hbs (.inl h)) (fun h => hS.own' (i := 3) rfl h) rfl) ((hS.bk (k := 0) rfl).rs 0 8 8 1 (by omega) (by simp [maxLen]) (by simp [bs8_len])) (by simp [tailB]) (fun _ a ha => by injection ha with ha; subst ha; exact hap (k := 0) (i := 2) (j := 3) hS rfl rfl rfl (by omega) (by omega))) ?_
      rintro _ w ⟨rfl, hF, v2, hB, hR, hbl⟩
      refine ⟨_, rfl, ?_⟩
      replace hS := (hS.upd2 (i := 2) (j := 3) rfl rfl hF hB hR hbl).erase 0
      simp only [List.set, List.eraseIdx_zero, List.tail_cons] at hS
      generalize hS3 : tks K S2 (tailB (n * 8)) = S3 at hS
      refine WL.nil ?_
      refine QN.thenW ?_
      refine WC.seq ?_
      refine WC.region ?_
      refine WL.alloc hS zeroT_25 rfl ?_
      intro b6 w hb6 hS
      rw [bs8_rep, ← fillB_zero (fun i => (rotl (S3.1 (i / 4)) (8 * (i % 4 + 1))).toUInt8) 32] at hS
      refine WL.nil ?_
      refine QN.thenW ?_
      refine WC.seq ?_
      refine WC.seq ?_
      refine WC.region ?_
      refine WL.pv (pv_move rfl) rfl ?_
      refine WL.nil ?_
      refine QN.thenW ?_
      refine WC.block ?_
      refine WC.loop (α := Nat) (fun k => [(0, .pointer (some ⟨bd, 0, none⟩)), (2, .pointer (some ⟨b2, 0, none⟩)), (6, .pointer (some ⟨b6, 0, none⟩)), (40, .int .i64 (k : Int))]) (fun k w => k ≤ 32 ∧ ∃ n2, ST w0 (fun b => b = bd ∨ wv.ownBlock = some b) w [.blk b6 25 (bs8 (fillB (fun i => (rotl (S3.1 (i / 4)) (8 * (i % 4 + 1))).toUInt8) 32 k)), .blk b2 25 (bs8 (fillB (fun i => (rotl (S3.1 (i / 4)) (8 * (i % 4 + 1))).toUInt8) 32 0)), .blk bd 132 (dg (.pointer (some ⟨bs, 0, none⟩)) S3.1 v2 n2), .row v2 5 1 (bs8 S3.2)]) (fun k => 32 - k) (0) (Sub.cons rfl (Sub.cons rfl (Sub.cons rfl (Sub.cons rfl Sub.nil)))) ⟨by omega, _, hS⟩ ?_
      rintro k w N hN hR
      obtain ⟨hk, n2, hS⟩ := hR
      refine WC.seq ?_
      refine WC.region ?_
      refine WL.pv (pv_lss rfl rfl) rfl ?_
      refine WL.nil ?_
      refine QN.thenW ?_
      refine WC.seq ?_
      refine WC.condD rfl (fun hc41 => ?_) (fun hc41 => ?_)
      · skip
        have hk8 : k < 32 := by omega
        refine WC.skip ?_
        refine QN.thenW ?_
        refine WC.seq ?_
        refine WC.block ?_
        refine WC.seq ?_
        refine WC.region ?_
        refine WL.pv (pv_move rfl) rfl ?_
        refine WL.pv (pv_assign rfl) rfl ?_
        refine WL.nil ?_
        refine QN.thenW ?_
        refine WC.region ?_
        refine WL.pv (pv_move rfl) rfl ?_
        refine WL.pv (pv_move rfl) rfl ?_
        refine WL.pv (pv_move rfl) rfl ?_
        refine WL.pv (pv_quo rfl rfl (by omega)) rfl ?_
        refine WL.pv (pv_nil rfl) rfl ?_
        refine WL.pv (pv_fieldAddrZ fldT_132_1 rfl) rfl ?_
        refine WL.pv (pv_indexAddrA1 (j := k / 4) arrT_127 rfl rfl (by omega) (by omega)) rfl ?_
        refine WL.rv (rv_load_blk (k := 2) hS oneT_91 rfl rfl (dg_at (by omega))) rfl ?_
        refine WL.pv (pv_move rfl) rfl ?_
        refine WL.pv (pv_rem rfl rfl (by omega)) rfl ?_
        refine WL.pv (pv_add rfl rfl (by omega)) rfl ?_
        refine WL.pv (pv_mul rfl rfl (by omega)) rfl ?_
        refine WL.call (args := [.tmp 50, .tmp 54]) cf_103 rfl rfl (rotl32_c _ (8 * (k % 4 + 1)) _ (by omega)) ?_
        rintro _ _ ⟨rfl, rfl⟩
        refine ⟨_, rfl, ?_⟩
        refine WL.pv (pv_conv someT_91 Try.underlying5 rfl (cv_32_8 _)) rfl ?_
        refine WL.pv (pv_indexAddrA1Z arrT_25 rfl rfl rfl (by omega)) rfl ?_
        refine WL.store (k := 0) hS sizeT_5 rfl rfl rfl rfl (by rw [bs8_len, fillB_len]; omega) ?_
        intro w hS
        try simp only [List.set] at hS
        rw [bs8_set, fillB_set (fun i => (rotl (S3.1 (i / 4)) (8 * (i % 4 + 1))).toUInt8)] at hS
        refine WL.nil ?_
        refine QN.blockN ?_
        refine QN.thenW ?_
        refine WC.region ?_
        refine WL.pv (pv_add rfl rfl (by omega)) rfl ?_
        refine WL.pv (pv_move rfl) rfl ?_
        refine WL.nil ?_
        refine QN.roundE ?_
        refine ⟨(k + 1), (Sub.cons rfl (Sub.cons rfl (Sub.cons rfl (Sub.cons rfl Sub.nil)))), ⟨by omega, _, hS⟩, ?_⟩
        first | omega | (dsimp only; omega)
      · skip
        obtain rfl : k = 32 := by omega
        refine WC.exit ?_
        refine QN.thenX ?_
        refine QN.thenX ?_
        refine QN.blockX ?_
        refine QN.thenW ?_
        refine WC.seq ?_
        refine WC.region ?_
        refine WL.rv (rv_load_all (k := 0) hS rfl rfl (by rw [aggT_25, bs8_len, fillB_len])) rfl ?_
        refine WL.storeAll (k := 1) (vs := bs8 (fillB (fun i => (rotl (S3.1 (i / 4)) (8 * (i % 4 + 1))).toUInt8) 32 32)) hS (by rw [sizeT_25, bs8_len, fillB_len]) rfl rfl rfl bs8_one (by simp [bs8_len, fillB_len]) ?_
        intro w hS
        try simp only [List.set] at hS
        refine WL.nil ?_
        refine QN.thenW ?_
        refine WC.ret ?_
        refine QN.retK (k := 1) rfl rfl hS rfl (by rw [aggT_25, bs8_len, fillB_len]) ?_
        refine ⟨?_, hS.fr⟩
        rw [finK, hS2, hS3, fillB_all]; rfl

end Go.Proofs.Ytjcebkhhgdgohaa
