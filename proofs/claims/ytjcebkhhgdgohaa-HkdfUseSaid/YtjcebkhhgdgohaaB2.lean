/- What a few functions of the program compute, part B2. -/
import Derived.Test.YtjcebkhhgdgohaaB1
namespace Go.Proofs.Ytjcebkhhgdgohaa
open Go Go.RowKit Go.Eng
theorem cf_85 : callable Try.prog 85 = true := by kernel_rfl
theorem cf_86 : callable Try.prog 86 = true := by kernel_rfl
theorem cf_87 : callable Try.prog 87 = true := by kernel_rfl
theorem cf_88 : callable Try.prog 88 = true := by kernel_rfl
theorem fldT_103_0 : fldT Try.prog 103 0 = some 0 := by kernel_rfl

/-- What a writer is behind a put. -/
def PutPost (bw : Nat) (v : Value) (l : List UInt8) (r : Value) (w0 : World) (e : Ending) (w : World) : Prop :=
  e = .returned r ∧ Fr (fun b => b = bw ∨ v.ownBlock = some b) w0 w ∧ ∃ v', Bk w bw 103 [v'] ∧ Rw w v' 5 1 (bs8 l) ∧ ∀ b, v'.ownBlock = some b → v.ownBlock = some b ∨ w0.heap.size ≤ b

set_option maxRecDepth 100000 in
theorem put_c (bw : Nat) (v : Value) (l bl : List UInt8) (A : Option Addr) (m c : Nat) (w0 : World) (hd : Bk w0 bw 103 [v]) (hr : Rw w0 v 5 1 (bs8 l)) (hb : Rs w0 (.slice A m c) 1 (bs8 bl)) (hn : l.length + bl.length ≤ 1048576) :
    Calls Try.prog 86 #[.pointer (some ⟨bw, 0, none⟩), .slice A m c] w0 (PutPost bw v (l ++ bl) (.tuple #[]) w0) := by
  refine calls_of_WC (args := [.pointer (some ⟨bw, 0, none⟩), .slice A m c]) Try.func86 rfl Try.ntmps86 rfl ?_
  show WC _ _ _ _ [(0, .pointer (some ⟨bw, 0, none⟩)), (1, .slice A m c)] _
  have hS : ST w0 (fun b => b = bw ∨ v.ownBlock = some b) w0 [.blk bw 103 [v], .row v 5 1 (bs8 l)] := ST.both hd hr (fun b hb => .inl (by simpa [Ent.block] using hb.symm)) (fun b hb => .inr hb) (fun b hb => by have := hr.ne hd (by decide); simp [Ent.block] at hb; subst hb; exact this)
  refine WC.region ?_
  refine WL.pv (pv_move rfl) rfl ?_
  refine WL.pv (pv_move rfl) rfl ?_
  refine WL.pv (pv_nil rfl) rfl ?_
  refine WL.pv (pv_fieldAddrZ fldT_103_0 rfl) rfl ?_
  refine WL.rv (rv_load_blk (k := 0) hS oneT_22 rfl rfl rfl) rfl ?_
  refine WL.pv (pv_move rfl) rfl ?_
  refine WL.append (k := 1) (N := 1048576) hS slT_22 zlenT_5 (by decide) rfl rfl rfl hb bs8_one (by rw [bs8_len, bs8_len]; omega) (by omega) (by simp [maxLen]) rfl ?_
  intro v1 w hFr10 hS
  try simp only [List.set] at hS
  rw [← bs8_app] at hS
  obtain ⟨A1, m1, c1, rfl, _, _, _⟩ := (hS.rw_ (k := 1) rfl).anyForm
  refine WL.pv (pv_nil rfl) rfl ?_
  refine WL.pv (pv_fieldAddrZ fldT_103_0 rfl) rfl ?_
  refine WL.store (k := 0) hS sizeT_22 rfl rfl rfl rfl (by simp) ?_
  intro w hS
  try simp only [List.set] at hS
  refine WL.nil ?_
  refine QN.end0 rfl ?_
  exact ⟨rfl, hS.fr, _, hS.bk (k := 0) rfl, hS.rw_ (k := 1) rfl, fun b hb' => by
    rcases hS.own' (i := 1) rfl hb' with h | h | h
    · exact .inr h
    · exact absurd hb' (hS.sep' (i := 0) (j := 1) rfl rfl (by omega) (b := b) (by rw [h]; rfl))
    · exact .inl h⟩

set_option maxRecDepth 100000 in
theorem clone_c (A : Option Addr) (m c : Nat) (bl : List UInt8) (w0 : World) (hb : Rs w0 (.slice A m c) 1 (bs8 bl)) (hn : bl.length ≤ 1048576) : Calls Try.prog 88 #[.slice A m c] w0 (OwnPost (bs8 bl) 5 w0) := by
  refine calls_of_WC (args := [.slice A m c]) Try.func88 rfl Try.ntmps88 rfl ?_
  show WC _ _ _ _ [(0, .slice A m c)] _
  have hS := ST.start w0 No
  refine WC.seq ?_
  refine WC.region ?_
  refine WL.pv (pv_assign rfl) rfl ?_
  refine WL.nil ?_
  refine QN.thenW ?_
  refine WC.seq ?_
  refine WC.seq ?_
  refine WC.region ?_
  refine WL.pv (pv_move rfl) rfl ?_
  refine WL.pv (pv_eqlS slS_22 rfl rfl (by simp)) rfl ?_
  refine WL.nil ?_
  refine QN.thenW ?_
  refine WC.cond rfl (fun hc4 => ?_) (fun hc4 => ?_)
  · skip
    have hA : A = none := by simpa using hc4
    subst hA
    have hnil : bl = [] := by
      obtain ⟨A', m', c', he, _, _, _, h4⟩ := hb
      injection he with e1 e2 e3; subst e1; subst e2; subst e3
      rcases h4 with h4 | ⟨b, o, h4, _⟩
      · exact List.eq_nil_of_length_eq_zero (by have := congrArg List.length h4; simpa [bs8_len] using this)
      · cases h4
    subst hnil
    refine WC.seq ?_
    refine WC.region ?_
    refine WL.pv (pv_assign rfl) rfl ?_
    refine WL.nil ?_
    refine QN.thenW ?_
    refine WC.ret ?_
    refine QN.thenR ?_
    refine QN.ret1 rfl rfl ?_
    exact ⟨_, rfl, hS.fr, .inl ⟨rfl, rfl⟩, fun b hb => by simp [Value.ownBlock] at hb⟩
  · skip
    refine WC.skip ?_
    refine QN.thenW ?_
    refine WC.seq ?_
    refine WC.region ?_
    refine WL.build0 hS slT_22 rfl ?_
    intro r w hr hS
    refine WL.pv (pv_move rfl) rfl ?_
    refine WL.append (k := 0) (N := 1048576) hS slT_22 zlenT_5 (by decide) rfl rfl rfl (hb.no hS.fr) bs8_one (by simp [bs8_len]; omega) (by omega) (by simp [maxLen]) rfl ?_
    intro v1 w hFr7 hS
    try simp only [List.set] at hS
    rw [List.nil_append] at hS
    refine WL.pv (pv_assign rfl) rfl ?_
    refine WL.nil ?_
    refine QN.thenW ?_
    refine WC.ret ?_
    refine QN.ret1 rfl rfl ?_
    exact ⟨_, rfl, hS.fr, hS.rw_ (k := 0) rfl, fun b hb => (hS.own' (i := 0) rfl hb).resolve_right (fun h => h)⟩

set_option maxRecDepth 100000 in
theorem num_c (bw : Nat) (v : Value) (l : List UInt8) (x : UInt64) (n : Nat) (w0 : World) (hd : Bk w0 bw 103 [v]) (hr : Rw w0 v 5 1 (bs8 l)) (h1 : 1 ≤ n) (h8 : n ≤ 8) (hx : widN x.toNat ≤ n) (hn : l.length ≤ 1000000) :
    Calls Try.prog 65 #[.pointer (some ⟨bw, 0, none⟩), w64 x, .int .i64 (n : Int)] w0 (PutPost bw v (l ++ beB x n) (.int .i64 0) w0) := by
  refine calls_of_WC (args := [.pointer (some ⟨bw, 0, none⟩), w64 x, .int .i64 (n : Int)]) Try.func65 rfl Try.ntmps65 rfl ?_
  show WC _ _ _ _ [(0, .pointer (some ⟨bw, 0, none⟩)), (1, w64 x), (2, .int .i64 (n : Int))] _
  have hS : ST w0 (fun b => b = bw ∨ v.ownBlock = some b) w0 [.blk bw 103 [v], .row v 5 1 (bs8 l)] := ST.both hd hr (fun b hb => .inl (by simpa [Ent.block] using hb.symm)) (fun b hb => .inr hb) (fun b hb => by have := hr.ne hd (by decide); simp [Ent.block] at hb; subst hb; exact this)
  refine WC.seq ?_
  refine WC.region ?_
  refine WL.pv (pv_assign rfl) rfl ?_
  refine WL.nil ?_
  refine QN.thenW ?_
  refine WC.seq ?_
  refine WC.block ?_
  refine WC.seq ?_
  refine WC.region ?_
  refine WL.pv (pv_move rfl) rfl ?_
  refine WL.pv (pv_eqlP Try.underlying138 rfl rfl (by simp)) rfl ?_
  refine WL.pv (pv_assign rfl) rfl ?_
  refine WL.nil ?_
  refine QN.thenW ?_
  refine WC.condF rfl rfl ?_
  refine WC.seq ?_
  refine WC.region ?_
  refine WL.pv (pv_move rfl) rfl ?_
  refine WL.pv (pv_lss rfl rfl) rfl ?_
  refine WL.pv (pv_move rfl) rfl ?_
  refine WL.guardT rfl rfl rfl (lkF rfl (by omega)) ?_
  refine WL.pv (pv_move rfl) rfl ?_
  refine WL.guardT rfl rfl rfl (lkF rfl (by omega)) ?_
  refine WL.pv (pv_gtr rfl rfl) rfl ?_
  refine WL.pv (pv_pick0 (lkF rfl (by omega)) rfl) rfl ?_
  refine WL.pv (pv_assign rfl) rfl ?_
  refine WL.nil ?_
  refine QN.thenW ?_
  refine WC.condDF rfl (by omega) ?_
  refine WC.seq ?_
  refine WC.region ?_
  refine WL.pv (pv_move rfl) rfl ?_
  refine WL.call (args := [.tmp 18]) cf_85 rfl rfl (width_c x _) ?_
  rintro _ w ⟨rfl, hF⟩
  refine ⟨_, rfl, ?_⟩
  replace hS := hS.no hF
  refine WL.pv (pv_move rfl) rfl ?_
  refine WL.pv (pv_gtr rfl rfl) rfl ?_
  refine WL.pv (pv_assign rfl) rfl ?_
  refine WL.nil ?_
  refine QN.thenW ?_
  refine WC.condDF rfl (by omega) ?_
  refine WC.skip ?_
  refine QN.blockN ?_
  refine QN.thenW ?_
  refine WC.seq ?_
  refine WC.region ?_
  refine WL.pv (pv_move rfl) rfl ?_
  refine WL.pv (pv_move rfl) rfl ?_
  refine WL.pv (pv_move rfl) rfl ?_
  refine WL.call (args := [.tmp 23, .tmp 24]) cf_87 rfl rfl (spread_b x n _ h8) ?_
  rintro _ w ⟨vx, rfl, hF, hRx, hfx⟩
  refine ⟨_, rfl, ?_⟩
  replace hS := hS.no hF
  obtain ⟨gx, mx, cx, rfl, _, _, _⟩ := hRx.form8 (by rw [beB_len]; omega)
  refine WL.call (args := [.tmp 22, .tmp 25]) cf_86 rfl rfl (put_c bw v l (beB x n) _ _ _ _ (hS.bk (k := 0) rfl) (hS.rw_ (k := 1) rfl) hRx.rs (by rw [beB_len]; omega)) ?_
  rintro _ w ⟨rfl, hF2, v1, hB1, hR1, ho1⟩
  refine ⟨_, rfl, ?_⟩
  replace hS := hS.upd2 (i := 0) (j := 1) rfl rfl hF2 hB1 hR1 ho1
  simp only [List.set] at hS
  refine WL.nil ?_
  refine QN.thenW ?_
  refine WC.seq ?_
  refine WC.region ?_
  refine WL.pv (pv_assign rfl) rfl ?_
  refine WL.nil ?_
  refine QN.thenW ?_
  refine WC.ret ?_
  refine QN.ret1 rfl rfl ?_
  exact ⟨rfl, hS.fr, v1, hS.bk (k := 0) rfl, hS.rw_ (k := 1) rfl, fun b hb' => by
    rcases hS.own' (i := 1) rfl hb' with h | h | h
    · exact .inr h
    · exact absurd hb' (hS.sep' (i := 0) (j := 1) rfl rfl (by omega) (b := b) (by rw [h]; rfl))
    · exact .inl h⟩

set_option maxRecDepth 100000 in
theorem out_c (bw : Nat) (v : Value) (l : List UInt8) (w0 : World) (hd : Bk w0 bw 103 [v]) (hr : Rw w0 v 5 1 (bs8 l)) (hn : l.length ≤ 1048576) : Calls Try.prog 66 #[.pointer (some ⟨bw, 0, none⟩)] w0 (OwnPost (bs8 l) 5 w0) := by
  refine calls_of_WC (args := [.pointer (some ⟨bw, 0, none⟩)]) Try.func66 rfl Try.ntmps66 rfl ?_
  show WC _ _ _ _ [(0, .pointer (some ⟨bw, 0, none⟩))] _
  have hS := ST.start w0 No
  refine WC.seq ?_
  refine WC.region ?_
  refine WL.pv (pv_assign rfl) rfl ?_
  refine WL.nil ?_
  refine QN.thenW ?_
  refine WC.seq ?_
  refine WC.seq ?_
  refine WC.region ?_
  refine WL.pv (pv_move rfl) rfl ?_
  refine WL.pv (pv_eqlP Try.underlying138 rfl rfl (by simp)) rfl ?_
  refine WL.nil ?_
  refine QN.thenW ?_
  refine WC.condF rfl rfl ?_
  refine WC.skip ?_
  refine QN.thenW ?_
  refine WC.seq ?_
  refine WC.region ?_
  refine WL.pv (pv_move rfl) rfl ?_
  refine WL.pv (pv_nil rfl) rfl ?_
  refine WL.pv (pv_fieldAddr fldT_103_0 rfl) rfl ?_
  refine WL.rv (rv_load oneT_22 rfl (hS.fr.cellS (by rw [hd.cell]; rfl) (fun h => h))) rfl ?_
  obtain ⟨A, m, c, rfl, _, _, _⟩ := hr.anyForm
  refine WL.call (args := [.tmp 8]) cf_88 rfl rfl (clone_c _ _ _ l _ (hr.rs.no hS.fr) hn) ?_
  rintro _ w ⟨v2, rfl, hF, hR2, hf2⟩
  refine ⟨_, rfl, ?_⟩
  refine WL.pv (pv_assign rfl) rfl ?_
  refine WL.nil ?_
  refine QN.thenW ?_
  refine WC.ret ?_
  refine QN.ret1 rfl rfl ?_
  exact ⟨_, rfl, hS.fr.trans hF (fun _ _ h => h), hR2, fun b hb => Nat.le_trans hS.fr.size (hf2 b hb)⟩

end Go.Proofs.Ytjcebkhhgdgohaa
