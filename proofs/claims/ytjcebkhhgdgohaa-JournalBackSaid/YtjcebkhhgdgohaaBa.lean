/- What the functions of numbers and texts compute. -/
import Derived.Test.YtjcebkhhgdgohaaHa
namespace Go.Proofs.Ytjcebkhhgdgohaa
open Go Go.RowKit Go.Eng


/-- How many bytes a number needs; none for nought. -/
def wid0 (x : Nat) : Nat := if h : x = 0 then 0 else wid0 (x / 256) + 1
termination_by x
decreasing_by omega
theorem wid0_zero : wid0 0 = 0 := by rw [wid0]; simp
theorem wid0_pos {x : Nat} (h : 0 < x) : wid0 x = wid0 (x / 256) + 1 := by rw [wid0, dif_neg (by omega)]
/-- How many bytes a number needs. -/
def widN (x : Nat) : Nat := 1 + wid0 (x / 256)
theorem wid0_le : ∀ k x, x < 256 ^ k → wid0 x ≤ k := by
  intro k
  induction k with
  | zero => intro x h; simp at h; subst h; rw [wid0_zero]; omega
  | succ k ih =>
    intro x h
    by_cases h0 : x = 0
    · subst h0; rw [wid0_zero]; omega
    · rw [wid0_pos (by omega)]
      have := ih (x / 256) (by rw [Nat.pow_succ] at h; omega)
      omega
theorem widN_le {k x : Nat} (hk : 1 ≤ k) (h : x < 256 ^ k) : widN x ≤ k := by
  have := wid0_le (k - 1) (x / 256) (by
    rw [show k = (k - 1) + 1 from by omega, Nat.pow_succ] at h
    omega)
  unfold widN; omega
theorem wid64 (x : UInt64) : widN x.toNat ≤ 8 := widN_le (by omega) (by have := x.toNat_lt; simpa using this)
theorem shr8 (x : UInt64) : (x >>> UInt64.ofNat 8).toNat = x.toNat / 256 := by
  rw [UInt64.toNat_shiftRight, show (UInt64.ofNat 8).toNat % 64 = 8 from by decide, Nat.shiftRight_eq_div_pow]
theorem divs_nat (x : UInt64) (k : Nat) : (divs x k).toNat = x.toNat / 256 ^ k := by
  induction k with
  | zero => simp [divs]
  | succ k ih => rw [divs, UInt64.toNat_div, ih, show (256 : UInt64).toNat = 256 from rfl, Nat.div_div_eq_div_mul, Nat.pow_succ]
theorem shr_byte (x : UInt64) (i : Nat) (hi : i < 8) : (x >>> UInt64.ofNat (8 * i)).toUInt8 = (divs x i % 256).toUInt8 := by
  apply UInt8.toNat_inj.1
  rw [UInt64.toNat_toUInt8, UInt64.toNat_toUInt8, UInt64.toNat_mod, divs_nat, UInt64.toNat_shiftRight, Nat.shiftRight_eq_div_pow, show (UInt64.ofNat (8 * i)).toNat % 64 = 8 * i from by simp; omega, show (256 : UInt64).toNat = 256 from rfl, show 256 ^ i = 2 ^ (8 * i) from by rw [Nat.pow_mul], show 2 ^ 8 = 256 from rfl]
  omega

theorem pv_shr64g8 {P : Program} {l : Env} {d : Nat} {ty : TypeId} {pos : String} {af : Array Edge} {T U : TypeId} {x y : Operand} {yk : IntKind} {a : UInt64} {k : Nat} (hx : ev l x = some (w64 a)) (hy : ev l y = some (.int yk (8 * (k : Int)))) (hk : k < 8) : PV P l ⟨some d, .binOp .shr T x y U, ty, pos, af, none⟩ (w64 (a >>> UInt64.ofNat (8 * k))) :=
  pv_shr64 (c := 8 * k) hx (by rw [hy, show (8 * (k : Int)) = ((8 * k : Nat) : Int) from by omega]) (by omega)

set_option maxRecDepth 100000 in
theorem width_c (x : UInt64) (w0 : World) : Calls Try.prog 85 #[w64 x] w0 fun e w => e = .returned (.int .i64 (widN x.toNat : Int)) ∧ Fr No w0 w := by
  refine calls_of_WC (args := [w64 x]) Try.func85 rfl Try.ntmps85 rfl ?_
  show WC _ _ _ _ [(0, w64 x)] _
  have hS := ST.start w0 No
  refine WC.seq ?_
  refine WC.region ?_
  refine WL.pv (pv_assign rfl) rfl ?_
  refine WL.nil ?_
  refine QN.thenW ?_
  refine WC.seq ?_
  refine WC.region ?_
  refine WL.pv (pv_assign rfl) rfl ?_
  refine WL.nil ?_
  refine QN.thenW ?_
  refine WC.seq ?_
  refine WC.seq ?_
  refine WC.region ?_
  refine WL.pv (pv_move rfl) rfl ?_
  refine WL.pv (pv_shr64 (c := 8) rfl rfl (by omega)) rfl ?_
  refine WL.pv (pv_assign rfl) rfl ?_
  refine WL.nil ?_
  refine QN.thenW ?_
  refine WC.block ?_
  refine WC.loop (α := Nat × UInt64) (fun s => [(0, w64 s.2), (3, .int .i64 (s.1 : Int))]) (fun s w => s.1 + wid0 s.2.toNat = widN x.toNat ∧ ST w0 No w []) (fun s => s.2.toNat) ((1, x >>> UInt64.ofNat 8)) (Sub.cons rfl (Sub.cons rfl Sub.nil)) ⟨by show 1 + wid0 _ = _; rw [shr8]; rfl, hS⟩ ?_
  rintro ⟨n, y⟩ w N hN hR
  change N = y.toNat at hN
  change n + wid0 y.toNat = widN x.toNat ∧ ST w0 No w [] at hR
  show WC _ _ _ _ [(0, w64 y), (3, .int .i64 (n : Int))] _
  obtain ⟨hn, hS⟩ := hR
  have h8 := wid64 x
  refine WC.seq ?_
  refine WC.seq ?_
  refine WC.region ?_
  refine WL.pv (pv_move rfl) rfl ?_
  refine WL.pv (pv_gtr rfl rfl) rfl ?_
  refine WL.nil ?_
  refine QN.thenW ?_
  refine WC.condD rfl (fun hc7 => ?_) (fun hc7 => ?_)
  · skip
    have hpos : 0 < y.toNat := by omega
    refine WC.skip ?_
    refine QN.thenW ?_
    refine WC.seq ?_
    refine WC.block ?_
    refine WC.region ?_
    refine WL.pv (pv_move rfl) rfl ?_
    refine WL.pv (pv_add rfl rfl (by omega)) rfl ?_
    refine WL.pv (pv_assign rfl) rfl ?_
    refine WL.nil ?_
    refine QN.blockN ?_
    refine QN.thenW ?_
    refine WC.region ?_
    refine WL.pv (pv_move rfl) rfl ?_
    refine WL.pv (pv_shr64 (c := 8) rfl rfl (by omega)) rfl ?_
    refine WL.pv (pv_assign rfl) rfl ?_
    refine WL.nil ?_
    refine QN.roundE ?_
    refine ⟨((n + 1, y >>> UInt64.ofNat 8)), (Sub.cons rfl (Sub.cons rfl Sub.nil)), ⟨by show n + 1 + wid0 _ = _; rw [shr8, ← hn, wid0_pos hpos]; omega, hS⟩, ?_⟩
    (show (y >>> UInt64.ofNat 8).toNat < N; rw [shr8]; omega)
  · skip
    have hy0 : y.toNat = 0 := by omega
    rw [hy0, wid0_zero] at hn
    refine WC.exit ?_
    refine QN.thenX ?_
    refine QN.thenX ?_
    refine QN.blockX ?_
    refine QN.thenW ?_
    refine WC.seq ?_
    refine WC.region ?_
    refine WL.pv (pv_move rfl) rfl ?_
    refine WL.pv (pv_assign rfl) rfl ?_
    refine WL.nil ?_
    refine QN.thenW ?_
    refine WC.ret ?_
    refine QN.ret1 rfl rfl ?_
    exact ⟨by rw [show (n : Int) = (widN x.toNat : Int) from by omega], hS.fr⟩

set_option maxRecDepth 100000 in
theorem spread_b (x : UInt64) (n : Nat) (w0 : World) (hn : n ≤ 8) : Calls Try.prog 87 #[w64 x, .int .i64 (n : Int)] w0 (OwnPost (bs8 (beB x n)) 5 w0) := by
  refine calls_of_WC (args := [w64 x, .int .i64 (n : Int)]) Try.func87 rfl Try.ntmps87 rfl ?_
  show WC _ _ _ _ [(0, w64 x), (1, .int .i64 (n : Int))] _
  have hS := ST.start w0 No
  refine WC.seq ?_
  refine WC.region ?_
  refine WL.pv (pv_assign rfl) rfl ?_
  refine WL.nil ?_
  refine QN.thenW ?_
  refine WC.seq ?_
  refine WC.region ?_
  refine WL.pv (pv_move rfl) rfl ?_
  refine WL.makeB hS slT_22 zeroT_5 (by simp) rfl rfl (by omega) (by simp [maxLen]; omega) rfl ?_
  intro bo w hbo hS
  rw [show (List.replicate n [b8 0]).flatten = bs8 (fillE (fun j => (divs x (n - 1 - j) % 256).toUInt8) n 0) from by rw [fillE_zero]; simp [bs8]] at hS
  refine WL.pv (pv_assign rfl) rfl ?_
  refine WL.nil ?_
  refine QN.thenW ?_
  refine WC.seq ?_
  refine WC.seq ?_
  refine WC.region ?_
  refine WL.pv (pv_move rfl) rfl ?_
  refine WL.pv (pv_move rfl) rfl ?_
  refine WL.nil ?_
  refine QN.thenW ?_
  refine WC.block ?_
  refine WC.loop (α := Nat) (fun k => [(0, w64 x), (1, .int .i64 (n : Int)), (5, .slice (some ⟨bo, 0, none⟩) n n), (9, .int .i64 (n : Int)), (10, .int .i64 (k : Int))]) (fun k w => k ≤ n ∧ ST w0 No w [.blk bo 5 (bs8 (fillE (fun j => (divs x (n - 1 - j) % 256).toUInt8) n k))]) (fun k => n - k) (0) (Sub.cons rfl (Sub.cons rfl (Sub.cons rfl (Sub.cons rfl (Sub.cons rfl Sub.nil))))) ⟨by omega, hS⟩ ?_
  rintro k w N hN hR
  obtain ⟨hk, hS⟩ := hR
  refine WC.seq ?_
  refine WC.region ?_
  refine WL.pv (pv_lss rfl rfl) rfl ?_
  refine WL.nil ?_
  refine QN.thenW ?_
  refine WC.seq ?_
  refine WC.condD rfl (fun hc11 => ?_) (fun hc11 => ?_)
  · skip
    have hkn : k < n := by omega
    refine WC.skip ?_
    refine QN.thenW ?_
    refine WC.seq ?_
    refine WC.block ?_
    refine WC.seq ?_
    refine WC.region ?_
    refine WL.pv (pv_move rfl) rfl ?_
    refine WL.pv (pv_assign rfl) rfl ?_
    refine WL.nil ?_
    refine QN.thenW ?_
    refine WC.region ?_
    refine WL.pv (pv_move rfl) rfl ?_
    refine WL.pv (pv_move rfl) rfl ?_
    refine WL.pv (pv_sub rfl rfl (by omega)) rfl ?_
    refine WL.pv (pv_move rfl) rfl ?_
    refine WL.pv (pv_sub rfl rfl (by omega)) rfl ?_
    refine WL.pv (pv_move rfl) rfl ?_
    refine WL.pv (pv_move rfl) rfl ?_
    refine WL.pv (pv_mul rfl rfl (by omega)) rfl ?_
    refine WL.pv (pv_shr64g8 rfl rfl (by omega)) rfl ?_
    refine WL.pv (pv_conv someT_86 Try.underlying5 rfl (cv_64_8 _)) rfl ?_
    refine WL.pv (pv_indexAddrS1Z (j := n - 1 - k) slT_22 rfl rfl (by omega) (by omega)) rfl ?_
    refine WL.store (k := 0) hS sizeT_5 rfl rfl rfl rfl (by rw [bs8_len, fillE_len]; omega) ?_
    intro w hS
    try simp only [List.set] at hS
    rw [bs8_set, fillE_set _ hkn _ (by rw [show n - 1 - (n - 1 - k) = k from by omega, shr_byte _ _ (by omega)])] at hS
    refine WL.nil ?_
    refine QN.blockN ?_
    refine QN.thenW ?_
    refine WC.region ?_
    refine WL.pv (pv_add rfl rfl (by omega)) rfl ?_
    refine WL.pv (pv_move rfl) rfl ?_
    refine WL.nil ?_
    refine QN.roundE ?_
    refine ⟨(k + 1), (Sub.cons rfl (Sub.cons rfl (Sub.cons rfl (Sub.cons rfl (Sub.cons rfl Sub.nil))))), ⟨by omega, hS⟩, ?_⟩
    first | omega | (dsimp only; omega)
  · skip
    obtain rfl : k = n := by omega
    refine WC.exit ?_
    refine QN.thenX ?_
    refine QN.thenX ?_
    refine QN.blockX ?_
    refine QN.thenW ?_
    refine WC.seq ?_
    refine WC.region ?_
    refine WL.pv (pv_move rfl) rfl ?_
    refine WL.pv (pv_assign rfl) rfl ?_
    refine WL.nil ?_
    refine QN.thenW ?_
    refine WC.ret ?_
    refine QN.ret1 rfl rfl ?_
    exact ⟨_, rfl, hS.fr, by rw [beB, ← fillE_all]; exact (hS.bk (k := 0) rfl).toRw (by simp [bs8_len, fillE_len]) (by simp only [maxLen]; omega), fun b hb => by injection hb with hb; subst hb; exact hbo⟩

end Go.Proofs.Ytjcebkhhgdgohaa
namespace Go.Proofs.Ytjcebkhhgdgohaa
open Go Go.RowKit Go.Eng
theorem cf_85 : callable Try.prog 85 = true := by kernel_rfl
theorem cf_86 : callable Try.prog 86 = true := by kernel_rfl
theorem cf_87 : callable Try.prog 87 = true := by kernel_rfl
theorem cf_88 : callable Try.prog 88 = true := by kernel_rfl
theorem fldT_103_0 : fldT Try.prog 103 0 = some 0 := by kernel_rfl

/-- What a writer is behind a put. -/
def PutPost (bw : Nat) (v : Value) (l : List UInt8) (r : Value) (w0 : World) (e : Ending) (w : World) : Prop :=
  e = .returned r ∧ Fr (fun b => b = bw ∨ v.ownBlock = some b) w0 w ∧ ∃ v', Bk w bw 103 [v'] ∧ Rw w v' 5 1 (bs8 l) ∧ ∀ b, v'.ownBlock = some b → v.ownBlock = some b ∨ w0.heap.size ≤ b

set_option maxRecDepth 100000 in
theorem put_c (bw : Nat) (v : Value) (l bl : List UInt8) (A : Option Addr) (m c : Nat) (w0 : World) (hd : Bk w0 bw 103 [v]) (hr : Rw w0 v 5 1 (bs8 l)) (hb : Rs w0 (.slice A m c) 1 (bs8 bl)) (hn : l.length + bl.length ≤ 1048576) :
    Calls Try.prog 86 #[.pointer (some ⟨bw, 0, none⟩), .slice A m c] w0 (PutPost bw v (l ++ bl) (.tuple #[]) w0) := by
  refine calls_of_WC (args := [.pointer (some ⟨bw, 0, none⟩), .slice A m c]) Try.func86 rfl Try.ntmps86 rfl ?_
  show WC _ _ _ _ [(0, .pointer (some ⟨bw, 0, none⟩)), (1, .slice A m c)] _
  have hS : ST w0 (fun b => b = bw ∨ v.ownBlock = some b) w0 [.blk bw 103 [v], .row v 5 1 (bs8 l)] := ST.both hd hr (fun b hb => .inl (by simpa [Ent.block] using hb.symm)) (fun b hb => .inr hb) (fun b hb => by have := hr.ne hd (by decide); simp [Ent.block] at hb; subst hb; exact this)
  refine WC.region ?_
  refine WL.pv (pv_move rfl) rfl ?_
  refine WL.pv (pv_move rfl) rfl ?_
  refine WL.pv (pv_nil rfl) rfl ?_
  refine WL.pv (pv_fieldAddrZ fldT_103_0 rfl) rfl ?_
  refine WL.rv (rv_load_blk (k := 0) hS oneT_22 rfl rfl rfl) rfl ?_
  refine WL.pv (pv_move rfl) rfl ?_
  refine WL.append (k := 1) (N := 1048576) hS slT_22 zlenT_5 (by decide) rfl rfl rfl hb bs8_one (by rw [bs8_len, bs8_len]; omega) (by omega) (by simp [maxLen]) rfl ?_
  intro v1 w hFr10 hS
  try simp only [List.set] at hS
  rw [← bs8_app] at hS
  obtain ⟨A1, m1, c1, rfl, _, _, _⟩ := (hS.rw_ (k := 1) rfl).anyForm
  refine WL.pv (pv_nil rfl) rfl ?_
  refine WL.pv (pv_fieldAddrZ fldT_103_0 rfl) rfl ?_
  refine WL.store (k := 0) hS sizeT_22 rfl rfl rfl rfl (by simp) ?_
  intro w hS
  try simp only [List.set] at hS
  refine WL.nil ?_
  refine QN.end0 rfl ?_
  exact ⟨rfl, hS.fr, _, hS.bk (k := 0) rfl, hS.rw_ (k := 1) rfl, fun b hb' => by
    rcases hS.own' (i := 1) rfl hb' with h | h | h
    · exact .inr h
    · exact absurd hb' (hS.sep' (i := 0) (j := 1) rfl rfl (by omega) (b := b) (by rw [h]; rfl))
    · exact .inl h⟩

set_option maxRecDepth 100000 in
theorem clone_c (A : Option Addr) (m c : Nat) (bl : List UInt8) (w0 : World) (hb : Rs w0 (.slice A m c) 1 (bs8 bl)) (hn : bl.length ≤ 1048576) : Calls Try.prog 88 #[.slice A m c] w0 (OwnPost (bs8 bl) 5 w0) := by
  refine calls_of_WC (args := [.slice A m c]) Try.func88 rfl Try.ntmps88 rfl ?_
  show WC _ _ _ _ [(0, .slice A m c)] _
  have hS := ST.start w0 No
  refine WC.seq ?_
  refine WC.region ?_
  refine WL.pv (pv_assign rfl) rfl ?_
  refine WL.nil ?_
  refine QN.thenW ?_
  refine WC.seq ?_
  refine WC.seq ?_
  refine WC.region ?_
  refine WL.pv (pv_move rfl) rfl ?_
  refine WL.pv (pv_eqlS slS_22 rfl rfl (by simp)) rfl ?_
  refine WL.nil ?_
  refine QN.thenW ?_
  refine WC.cond rfl (fun hc4 => ?_) (fun hc4 => ?_)
  · skip
    have hA : A = none := by simpa using hc4
    subst hA
    have hnil : bl = [] := by
      obtain ⟨A', m', c', he, _, _, _, h4⟩ := hb
      injection he with e1 e2 e3; subst e1; subst e2; subst e3
      rcases h4 with h4 | ⟨b, o, h4, _⟩
      · exact List.eq_nil_of_length_eq_zero (by have := congrArg List.length h4; simpa [bs8_len] using this)
      · cases h4
    subst hnil
    refine WC.seq ?_
    refine WC.region ?_
    refine WL.pv (pv_assign rfl) rfl ?_
    refine WL.nil ?_
    refine QN.thenW ?_
    refine WC.ret ?_
    refine QN.thenR ?_
    refine QN.ret1 rfl rfl ?_
    exact ⟨_, rfl, hS.fr, .inl ⟨rfl, rfl⟩, fun b hb => by simp [Value.ownBlock] at hb⟩
  · skip
    refine WC.skip ?_
    refine QN.thenW ?_
    refine WC.seq ?_
    refine WC.region ?_
    refine WL.build0 hS slT_22 rfl ?_
    intro r w hr hS
    refine WL.pv (pv_move rfl) rfl ?_
    refine WL.append (k := 0) (N := 1048576) hS slT_22 zlenT_5 (by decide) rfl rfl rfl (hb.no hS.fr) bs8_one (by simp [bs8_len]; omega) (by omega) (by simp [maxLen]) rfl ?_
    intro v1 w hFr7 hS
    try simp only [List.set] at hS
    rw [List.nil_append] at hS
    refine WL.pv (pv_assign rfl) rfl ?_
    refine WL.nil ?_
    refine QN.thenW ?_
    refine WC.ret ?_
    refine QN.ret1 rfl rfl ?_
    exact ⟨_, rfl, hS.fr, hS.rw_ (k := 0) rfl, fun b hb => (hS.own' (i := 0) rfl hb).resolve_right (fun h => h)⟩

set_option maxRecDepth 100000 in
theorem num_c (bw : Nat) (v : Value) (l : List UInt8) (x : UInt64) (n : Nat) (w0 : World) (hd : Bk w0 bw 103 [v]) (hr : Rw w0 v 5 1 (bs8 l)) (h1 : 1 ≤ n) (h8 : n ≤ 8) (hx : widN x.toNat ≤ n) (hn : l.length ≤ 1000000) :
    Calls Try.prog 65 #[.pointer (some ⟨bw, 0, none⟩), w64 x, .int .i64 (n : Int)] w0 (PutPost bw v (l ++ beB x n) (.int .i64 0) w0) := by
  refine calls_of_WC (args := [.pointer (some ⟨bw, 0, none⟩), w64 x, .int .i64 (n : Int)]) Try.func65 rfl Try.ntmps65 rfl ?_
  show WC _ _ _ _ [(0, .pointer (some ⟨bw, 0, none⟩)), (1, w64 x), (2, .int .i64 (n : Int))] _
  have hS : ST w0 (fun b => b = bw ∨ v.ownBlock = some b) w0 [.blk bw 103 [v], .row v 5 1 (bs8 l)] := ST.both hd hr (fun b hb => .inl (by simpa [Ent.block] using hb.symm)) (fun b hb => .inr hb) (fun b hb => by have := hr.ne hd (by decide); simp [Ent.block] at hb; subst hb; exact this)
  refine WC.seq ?_
  refine WC.region ?_
  refine WL.pv (pv_assign rfl) rfl ?_
  refine WL.nil ?_
  refine QN.thenW ?_
  refine WC.seq ?_
  refine WC.block ?_
  refine WC.seq ?_
  refine WC.region ?_
  refine WL.pv (pv_move rfl) rfl ?_
  refine WL.pv (pv_eqlP Try.underlying138 rfl rfl (by simp)) rfl ?_
  refine WL.pv (pv_assign rfl) rfl ?_
  refine WL.nil ?_
  refine QN.thenW ?_
  refine WC.condF rfl rfl ?_
  refine WC.seq ?_
  refine WC.region ?_
  refine WL.pv (pv_move rfl) rfl ?_
  refine WL.pv (pv_lss rfl rfl) rfl ?_
  refine WL.pv (pv_move rfl) rfl ?_
  refine WL.guardT rfl rfl rfl (lkF rfl (by omega)) ?_
  refine WL.pv (pv_move rfl) rfl ?_
  refine WL.guardT rfl rfl rfl (lkF rfl (by omega)) ?_
  refine WL.pv (pv_gtr rfl rfl) rfl ?_
  refine WL.pv (pv_pick0 (lkF rfl (by omega)) rfl) rfl ?_
  refine WL.pv (pv_assign rfl) rfl ?_
  refine WL.nil ?_
  refine QN.thenW ?_
  refine WC.condDF rfl (by omega) ?_
  refine WC.seq ?_
  refine WC.region ?_
  refine WL.pv (pv_move rfl) rfl ?_
  refine WL.call (args := [.tmp 18]) cf_85 rfl rfl (width_c x _) ?_
  rintro _ w ⟨rfl, hF⟩
  refine ⟨_, rfl, ?_⟩
  replace hS := hS.no hF
  refine WL.pv (pv_move rfl) rfl ?_
  refine WL.pv (pv_gtr rfl rfl) rfl ?_
  refine WL.pv (pv_assign rfl) rfl ?_
  refine WL.nil ?_
  refine QN.thenW ?_
  refine WC.condDF rfl (by omega) ?_
  refine WC.skip ?_
  refine QN.blockN ?_
  refine QN.thenW ?_
  refine WC.seq ?_
  refine WC.region ?_
  refine WL.pv (pv_move rfl) rfl ?_
  refine WL.pv (pv_move rfl) rfl ?_
  refine WL.pv (pv_move rfl) rfl ?_
  refine WL.call (args := [.tmp 23, .tmp 24]) cf_87 rfl rfl (spread_b x n _ h8) ?_
  rintro _ w ⟨vx, rfl, hF, hRx, hfx⟩
  refine ⟨_, rfl, ?_⟩
  replace hS := hS.no hF
  obtain ⟨gx, mx, cx, rfl, _, _, _⟩ := hRx.form8 (by rw [beB_len]; omega)
  refine WL.call (args := [.tmp 22, .tmp 25]) cf_86 rfl rfl (put_c bw v l (beB x n) _ _ _ _ (hS.bk (k := 0) rfl) (hS.rw_ (k := 1) rfl) hRx.rs (by rw [beB_len]; omega)) ?_
  rintro _ w ⟨rfl, hF2, v1, hB1, hR1, ho1⟩
  refine ⟨_, rfl, ?_⟩
  replace hS := hS.upd2 (i := 0) (j := 1) rfl rfl hF2 hB1 hR1 ho1
  simp only [List.set] at hS
  refine WL.nil ?_
  refine QN.thenW ?_
  refine WC.seq ?_
  refine WC.region ?_
  refine WL.pv (pv_assign rfl) rfl ?_
  refine WL.nil ?_
  refine QN.thenW ?_
  refine WC.ret ?_
  refine QN.ret1 rfl rfl ?_
  exact ⟨rfl, hS.fr, v1, hS.bk (k := 0) rfl, hS.rw_ (k := 1) rfl, fun b hb' => by
    rcases hS.own' (i := 1) rfl hb' with h | h | h
    · exact .inr h
    · exact absurd hb' (hS.sep' (i := 0) (j := 1) rfl rfl (by omega) (b := b) (by rw [h]; rfl))
    · exact .inl h⟩

set_option maxRecDepth 100000 in
theorem out_c (bw : Nat) (v : Value) (l : List UInt8) (w0 : World) (hd : Bk w0 bw 103 [v]) (hr : Rw w0 v 5 1 (bs8 l)) (hn : l.length ≤ 1048576) : Calls Try.prog 66 #[.pointer (some ⟨bw, 0, none⟩)] w0 (OwnPost (bs8 l) 5 w0) := by
  refine calls_of_WC (args := [.pointer (some ⟨bw, 0, none⟩)]) Try.func66 rfl Try.ntmps66 rfl ?_
  show WC _ _ _ _ [(0, .pointer (some ⟨bw, 0, none⟩))] _
  have hS := ST.start w0 No
  refine WC.seq ?_
  refine WC.region ?_
  refine WL.pv (pv_assign rfl) rfl ?_
  refine WL.nil ?_
  refine QN.thenW ?_
  refine WC.seq ?_
  refine WC.seq ?_
  refine WC.region ?_
  refine WL.pv (pv_move rfl) rfl ?_
  refine WL.pv (pv_eqlP Try.underlying138 rfl rfl (by simp)) rfl ?_
  refine WL.nil ?_
  refine QN.thenW ?_
  refine WC.condF rfl rfl ?_
  refine WC.skip ?_
  refine QN.thenW ?_
  refine WC.seq ?_
  refine WC.region ?_
  refine WL.pv (pv_move rfl) rfl ?_
  refine WL.pv (pv_nil rfl) rfl ?_
  refine WL.pv (pv_fieldAddr fldT_103_0 rfl) rfl ?_
  refine WL.rv (rv_load oneT_22 rfl (hS.fr.cellS (by rw [hd.cell]; rfl) (fun h => h))) rfl ?_
  obtain ⟨A, m, c, rfl, _, _, _⟩ := hr.anyForm
  refine WL.call (args := [.tmp 8]) cf_88 rfl rfl (clone_c _ _ _ l _ (hr.rs.no hS.fr) hn) ?_
  rintro _ w ⟨v2, rfl, hF, hR2, hf2⟩
  refine ⟨_, rfl, ?_⟩
  refine WL.pv (pv_assign rfl) rfl ?_
  refine WL.nil ?_
  refine QN.thenW ?_
  refine WC.ret ?_
  refine QN.ret1 rfl rfl ?_
  exact ⟨_, rfl, hS.fr.trans hF (fun _ _ h => h), hR2, fun b hb => Nat.le_trans hS.fr.size (hf2 b hb)⟩

end Go.Proofs.Ytjcebkhhgdgohaa
