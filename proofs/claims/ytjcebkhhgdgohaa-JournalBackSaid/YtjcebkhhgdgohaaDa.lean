/- What the functions of draws compute. -/
import Derived.Test.YtjcebkhhgdgohaaKb
namespace Go.Proofs.Ytjcebkhhgdgohaa
open Go Go.RowKit Go.Eng
theorem cf_67 : callable Try.prog 67 = true := by kernel_rfl
theorem fldT_108_0 : fldT Try.prog 108 0 = some 0 := by kernel_rfl
theorem layT_108 : layOf Try.prog 108 = some [(0, 1)] := by kernel_rfl
theorem oneT_45 : oneT Try.prog 45 = true := by kernel_rfl
theorem sizeT_45 : sizeT Try.prog 45 = some 1 := by kernel_rfl
theorem slS_45 : (slT Try.prog 45).isSome = true := by kernel_rfl
theorem slT_45 : slT Try.prog 45 = some (25, 32, 32) := by kernel_rfl
theorem zeroT_108 : zeroT Try.prog 108 = some ([.slice none 0 0]) := by kernel_rfl
theorem zlenT_25 : (zeroT Try.prog 25).map List.length = some 32 := by kernel_rfl

def OwnN (cs : List Value) (t : TypeId) (sz : Nat) (w0 : World) (e : Ending) (w : World) : Prop := ∃ v, e = .returned v ∧ Fr No w0 w ∧ Rw w v t sz cs ∧ ∀ b, v.ownBlock = some b → w0.heap.size ≤ b
/-- What is handed out, what is left, the error. -/
def someV (ks : List (List UInt8)) (n : Int) : List (List UInt8) × List (List UInt8) × Int :=
  if n < 0 then ([], ks, 14) else if (ks.length : Int) < n then ([], ks, 8) else (ks.take n.toNat, ks.drop n.toNat, 0)
theorem someV_neg {ks : List (List UInt8)} {n : Int} (h : n < 0) : someV ks n = ([], ks, 14) := by rw [someV, if_pos h]
theorem someV_big {ks : List (List UInt8)} {n : Int} (h : ¬ n < 0) (h2 : (ks.length : Int) < n) : someV ks n = ([], ks, 8) := by rw [someV, if_neg h, if_pos h2]
theorem someV_ok {ks : List (List UInt8)} {n : Nat} (h2 : n ≤ ks.length) : someV ks (n : Int) = (ks.take n, ks.drop n, 0) := by rw [someV, if_neg (by omega), if_neg (by omega)]; simp
def esD (bd : Nat) (v : Value) (ks : List (List UInt8)) : List Ent := [.blk bd 108 [v], .ro v 32 (kc ks)]

set_option maxRecDepth 100000 in
theorem clone67_c (A : Option Addr) (m c : Nat) (ks : List (List UInt8)) (w0 : World) (hb : Rs w0 (.slice A m c) 32 (kc ks)) (hk : K32 ks) (hn : ks.length ≤ 10000) : Calls Try.prog 67 #[.slice A m c] w0 (OwnN (kc ks) 25 32 w0) := by
  refine calls_of_WC (args := [.slice A m c]) Try.func67 rfl Try.ntmps67 rfl ?_
  show WC _ _ _ _ [(0, .slice A m c)] _
  have hS := ST.start w0 No
  refine WC.seq ?_
  refine WC.region ?_
  refine WL.pv (pv_assign rfl) rfl ?_
  refine WL.nil ?_
  refine QN.thenW ?_
  refine WC.seq ?_
  refine WC.seq ?_
  refine WC.region ?_
  refine WL.pv (pv_move rfl) rfl ?_
  refine WL.pv (pv_eqlS slS_45 rfl rfl (by simp)) rfl ?_
  refine WL.nil ?_
  refine QN.thenW ?_
  refine WC.cond rfl (fun hc4 => ?_) (fun hc4 => ?_)
  · skip
    have hA : A = none := by simpa using hc4
    subst hA
    have hnil := hb.nilOf
    refine WC.seq ?_
    refine WC.region ?_
    refine WL.pv (pv_assign rfl) rfl ?_
    refine WL.nil ?_
    refine QN.thenW ?_
    refine WC.ret ?_
    refine QN.thenR ?_
    refine QN.ret1 rfl rfl ?_
    exact ⟨_, rfl, hS.fr, .inl ⟨rfl, hnil⟩, fun b hb => by simp [Value.ownBlock] at hb⟩
  · skip
    refine WC.skip ?_
    refine QN.thenW ?_
    refine WC.seq ?_
    refine WC.region ?_
    refine WL.build0 hS slT_45 rfl ?_
    intro r w hr hS
    refine WL.pv (pv_move rfl) rfl ?_
    refine WL.append (k := 0) (N := 65536) hS slT_45 zlenT_25 (by decide) rfl rfl rfl (hb.no hS.fr) kc_one (by rw [hk.len]; simp; omega) (by omega) (by simp [maxLen]) rfl ?_
    intro v1 w hFr7 hS
    try simp only [List.set] at hS
    rw [List.nil_append] at hS
    refine WL.pv (pv_assign rfl) rfl ?_
    refine WL.nil ?_
    refine QN.thenW ?_
    refine WC.ret ?_
    refine QN.ret1 rfl rfl ?_
    exact ⟨_, rfl, hS.fr, hS.rw_ (k := 0) rfl, fun b hb => (hS.own' (i := 0) rfl hb).resolve_right (fun h => h)⟩

set_option maxRecDepth 100000 in
theorem newD_c (A : Option Addr) (m c : Nat) (ks : List (List UInt8)) (w0 : World) (hb : Rs w0 (.slice A m c) 32 (kc ks)) (hk : K32 ks) (hn : ks.length ≤ 10000) : Calls Try.prog 37 #[.slice A m c] w0 fun e w => ∃ bd v, e = .returned (.pointer (some ⟨bd, 0, none⟩)) ∧ ST w0 No w (esD bd v ks) := by
  refine calls_of_WC (args := [.slice A m c]) Try.func37 rfl Try.ntmps37 rfl ?_
  show WC _ _ _ _ [(0, .slice A m c)] _
  have hS := ST.start w0 No
  refine WC.seq ?_
  refine WC.region ?_
  refine WL.pv (pv_assign rfl) rfl ?_
  refine WL.nil ?_
  refine QN.thenW ?_
  refine WC.seq ?_
  refine WC.region ?_
  refine WL.pv (pv_move rfl) rfl ?_
  refine WL.call (args := [.tmp 3]) cf_67 rfl rfl (clone67_c _ _ _ ks _ (hb.no hS.fr) hk hn) ?_
  rintro _ w ⟨v, rfl, hF, hR, hf⟩
  refine ⟨_, rfl, ?_⟩
  obtain ⟨A3, m3, c3, rfl, _, _, _⟩ := hR.anyForm
  replace hS := hS.add (e := .row (.slice A3 m3 c3) 25 32 _) hF hR hf
  replace hS := hS.toRo (k := 0) rfl
  simp only [List.set] at hS
  refine WL.pv (pv_buildS (parts := [(0, .tmp 4)]) (cells := [.slice A3 m3 c3]) layT_108 zeroT_108 rfl rfl) rfl ?_
  refine WL.box (vs := [.slice A3 m3 c3]) hS rfl rfl rfl ?_
  intro bd w hbd hS
  refine WL.pv (pv_assign rfl) rfl ?_
  refine WL.nil ?_
  refine QN.thenW ?_
  refine WC.ret ?_
  refine QN.ret1 rfl rfl ?_
  exact ⟨_, _, rfl, hS⟩


theorem st_roV {w0 w : World} {M : Nat → Prop} {bd : Nat} {v : Value} {ks : List (List UInt8)} (h : Eng.ST w0 M w (esD bd v ks)) : Rs w v 32 (kc ks) := h.ro_ (k := 1) rfl

set_option maxRecDepth 100000 in
theorem left_c (bd : Nat) (v : Value) (ks : List (List UInt8)) (w0 : World) (h0 : ST w0 (Ours (esD bd v ks)) w0 (esD bd v ks)) (hk : K32 ks) : Calls Try.prog 45 #[.pointer (some ⟨bd, 0, none⟩)] w0 fun e w => e = .returned (.int .i64 (ks.length : Int)) ∧ Fr No w0 w := by
  obtain ⟨A, m, c, rfl, _, _, _, _⟩ := id (st_roV h0)
  have hlk := (st_roV h0).lenK hk
  have hmx : m ≤ 9223372036854775807 := by have := hlk; simp only [maxLen] at this; omega
  have hD : ST w0 No w0 [] := ST.start _ _
  refine calls_of_WC (args := [.pointer (some ⟨bd, 0, none⟩)]) Try.func45 rfl Try.ntmps45 rfl ?_
  show WC _ _ _ _ [(0, .pointer (some ⟨bd, 0, none⟩))] _
  have hS : ST w0 (Ours (esD bd (.slice A m c) ks)) w0 (esD bd (.slice A m c) ks) := h0
  unfold esD at hS
  refine WC.seq ?_
  refine WC.region ?_
  refine WL.pv (pv_assign rfl) rfl ?_
  refine WL.nil ?_
  refine QN.thenW ?_
  refine WC.seq ?_
  refine WC.seq ?_
  refine WC.region ?_
  refine WL.pv (pv_move rfl) rfl ?_
  refine WL.pv (pv_eqlP Try.underlying47 rfl rfl (by simp)) rfl ?_
  refine WL.nil ?_
  refine QN.thenW ?_
  refine WC.condF rfl rfl ?_
  refine WC.skip ?_
  refine QN.thenW ?_
  refine WC.seq ?_
  refine WC.region ?_
  refine WL.pv (pv_move rfl) rfl ?_
  refine WL.pv (pv_nil rfl) rfl ?_
  refine WL.pv (pv_fieldAddrZ fldT_108_0 rfl) rfl ?_
  refine WL.rv (rv_load_blk (k := 0) hS oneT_45 rfl rfl rfl) rfl ?_
  refine WL.pv (pv_len slS_45 rfl) rfl ?_
  refine WL.pv (pv_assign rfl) rfl ?_
  refine WL.nil ?_
  refine QN.thenW ?_
  refine WC.ret ?_
  refine QN.ret1 rfl rfl ?_
  exact ⟨by rw [hlk.1], Fr.refl _⟩

def SomePost (bd : Nat) (v : Value) (ks : List (List UInt8)) (n : Int) (w0 : World) (e : Ending) (w : World) : Prop :=
  ∃ r v', e = .returned (.tuple #[r, .int .i64 (someV ks n).2.2]) ∧ ST w0 (Ours (esD bd v ks)) w (.row r 25 32 (kc (someV ks n).1) :: esD bd v' (someV ks n).2.1)

set_option maxRecDepth 100000 in
theorem some_c (bd : Nat) (v : Value) (ks : List (List UInt8)) (w0 : World) (h0 : ST w0 (Ours (esD bd v ks)) w0 (esD bd v ks)) (hk : K32 ks) (n : Int) (hkl : ks.length ≤ 10000) (hn : -9223372036854775808 ≤ n ∧ n ≤ 9223372036854775807) : Calls Try.prog 40 #[.pointer (some ⟨bd, 0, none⟩), .int .i64 n] w0 (SomePost bd v ks n w0) := by
  obtain ⟨A, m, c, rfl, _, _, _, _⟩ := id (st_roV h0)
  have hlk := (st_roV h0).lenK hk
  have hmx : m ≤ 9223372036854775807 := by have := hlk; simp only [maxLen] at this; omega
  refine calls_of_WC (args := [.pointer (some ⟨bd, 0, none⟩), .int .i64 n]) Try.func40 rfl Try.ntmps40 rfl ?_
  show WC _ _ _ _ [(0, .pointer (some ⟨bd, 0, none⟩)), (1, .int .i64 n)] _
  have hS : ST w0 (Ours (esD bd (.slice A m c) ks)) w0 (esD bd (.slice A m c) ks) := h0
  unfold esD at hS
  refine WC.seq ?_
  refine WC.region ?_
  refine WL.pv (pv_assign rfl) rfl ?_
  refine WL.pv (pv_assign rfl) rfl ?_
  refine WL.nil ?_
  refine QN.thenW ?_
  refine WC.seq ?_
  refine WC.block ?_
  refine WC.seq ?_
  refine WC.region ?_
  refine WL.pv (pv_move rfl) rfl ?_
  refine WL.pv (pv_eqlP Try.underlying47 rfl rfl (by simp)) rfl ?_
  refine WL.pv (pv_assign rfl) rfl ?_
  refine WL.nil ?_
  refine QN.thenW ?_
  refine WC.condF rfl rfl ?_
  refine WC.seq ?_
  refine WC.region ?_
  refine WL.pv (pv_move rfl) rfl ?_
  refine WL.pv (pv_lss rfl rfl) rfl ?_
  refine WL.pv (pv_assign rfl) rfl ?_
  refine WL.nil ?_
  refine QN.thenW ?_
  refine WC.condD rfl (fun hc10 => ?_) (fun hc10 => ?_)
  · skip
    have hneg : n < 0 := by omega
    refine WC.seq ?_
    refine WC.region ?_
    refine WL.pv (pv_assign rfl) rfl ?_
    refine WL.pv (pv_assign rfl) rfl ?_
    refine WL.nil ?_
    refine QN.thenW ?_
    refine WC.ret ?_
    refine QN.blockR ?_
    refine QN.thenR ?_
    refine QN.ret2 rfl rfl rfl ?_
    exact ⟨_, _, by rw [someV_neg hneg], by rw [someV_neg hneg]; exact hS.addNil 25 32⟩
  · skip
    have hneg : ¬ n < 0 := by omega
    refine WC.seq ?_
    refine WC.region ?_
    refine WL.pv (pv_move rfl) rfl ?_
    refine WL.pv (pv_move rfl) rfl ?_
    refine WL.pv (pv_nil rfl) rfl ?_
    refine WL.pv (pv_fieldAddrZ fldT_108_0 rfl) rfl ?_
    refine WL.rv (rv_load_blk (k := 0) hS oneT_45 rfl rfl rfl) rfl ?_
    refine WL.pv (pv_len slS_45 rfl) rfl ?_
    refine WL.pv (pv_gtr rfl rfl) rfl ?_
    refine WL.pv (pv_assign rfl) rfl ?_
    refine WL.nil ?_
    refine QN.thenW ?_
    refine WC.condD rfl (fun hc13 => ?_) (fun hc13 => ?_)
    · skip
      have hbig : (ks.length : Int) < n := by omega
      refine WC.seq ?_
      refine WC.region ?_
      refine WL.pv (pv_assign rfl) rfl ?_
      refine WL.pv (pv_assign rfl) rfl ?_
      refine WL.nil ?_
      refine QN.thenW ?_
      refine WC.ret ?_
      refine QN.blockR ?_
      refine QN.thenR ?_
      refine QN.ret2 rfl rfl rfl ?_
      exact ⟨_, _, by rw [someV_big hneg hbig], by rw [someV_big hneg hbig]; exact hS.addNil 25 32⟩
    · skip
      obtain ⟨q, rfl⟩ : ∃ q : Nat, n = (q : Int) := ⟨n.toNat, by omega⟩
      have hq : q ≤ ks.length := by omega
      refine WC.skip ?_
      refine QN.blockN ?_
      refine QN.thenW ?_
      refine WC.seq ?_
      refine WC.region ?_
      refine WL.pv (pv_move rfl) rfl ?_
      refine WL.pv (pv_nil rfl) rfl ?_
      refine WL.pv (pv_fieldAddrZ fldT_108_0 rfl) rfl ?_
      refine WL.rv (rv_load_blk (k := 0) hS oneT_45 rfl rfl rfl) rfl ?_
      refine WL.pv (pv_move rfl) rfl ?_
      refine WL.pv (pv_move rfl) rfl ?_
      refine WL.pv (pv_sliceS (a := 0) (b := q) (c := q) slT_45 rfl rfl rfl rfl rfl rfl rfl (by simp) (Nat.zero_le _) (Nat.le_refl _) (by omega)) rfl ?_
      refine WL.pv (pv_assign rfl) rfl ?_
      refine WL.nil ?_
      refine QN.thenW ?_
      refine WC.seq ?_
      refine WC.region ?_
      refine WL.pv (pv_move rfl) rfl ?_
      refine WL.pv (pv_move rfl) rfl ?_
      refine WL.pv (pv_nil rfl) rfl ?_
      refine WL.pv (pv_fieldAddrZ fldT_108_0 rfl) rfl ?_
      refine WL.rv (rv_load_blk (k := 0) hS oneT_45 rfl rfl rfl) rfl ?_
      refine WL.pv (pv_move rfl) rfl ?_
      refine WL.pv (pv_sliceS (lo := some (.tmp 33)) (hi := none) (mx := none) (a := q) (b := m) (c := c) slT_45 rfl rfl rfl rfl rfl rfl rfl (by simp) (by omega) (by omega) (Nat.le_refl _)) rfl ?_
      refine WL.pv (pv_nil rfl) rfl ?_
      refine WL.pv (pv_fieldAddrZ fldT_108_0 rfl) rfl ?_
      refine WL.store (k := 0) hS sizeT_45 rfl rfl rfl rfl (by simp) ?_
      intro w hS
      try simp only [List.set] at hS
      refine WL.nil ?_
      refine QN.thenW ?_
      refine WC.seq ?_
      refine WC.region ?_
      refine WL.pv (pv_move rfl) rfl ?_
      have hRa := (hS.ro_ (k := 1) rfl).cutCapK hk (b := q) (by omega)
      replace hS := hS.reRo (k := 1) (v' := .slice (if c = q then A else A.map (·.add (q * 32))) (m - q) (c - q)) (sz' := 32) (xs' := kc (ks.drop q)) rfl (by have := (hS.ro_ (k := 1) rfl).cutK hk (a := q) (b := m) (by omega) (Nat.le_refl _); rwa [List.take_of_length_le (by simp; omega)] at this) (fun b hb => cut_own hb)
      simp only [List.set] at hS
      refine WL.call (args := [.tmp 37]) cf_67 rfl rfl (clone67_c _ _ _ (ks.take q) _ hRa (hk.take q) (by simp; omega)) ?_
      rintro _ w ⟨r, rfl, hF, hR, hf⟩
      refine ⟨_, rfl, ?_⟩
      replace hS := hS.add (e := .row r 25 32 _) hF hR hf
      refine WL.pv (pv_assign rfl) rfl ?_
      refine WL.pv (pv_assign rfl) rfl ?_
      refine WL.nil ?_
      refine QN.thenW ?_
      refine WC.ret ?_
      refine QN.ret2 rfl rfl rfl ?_
      exact ⟨_, _, by rw [someV_ok hq], by rw [someV_ok hq]; exact hS⟩

end Go.Proofs.Ytjcebkhhgdgohaa
namespace Go.Proofs.Ytjcebkhhgdgohaa
open Go Go.RowKit Go.Eng
theorem cf_40 : callable Try.prog 40 = true := by kernel_rfl

theorem someV_1 {ks : List (List UInt8)} (h : 1 ≤ ks.length) : someV ks 1 = (ks.take 1, ks.drop 1, 0) := someV_ok (n := 1) h
theorem someV_0 {ks : List (List UInt8)} (h : ¬ 1 ≤ ks.length) : someV ks 1 = ([], ks, 8) := someV_big (by omega) (by omega)
/-- The next one, or none. -/
def nextK (ks : List (List UInt8)) : List UInt8 := ks.headD (List.replicate 32 0)
theorem nextK_len {ks : List (List UInt8)} (h : K32 ks) : (nextK ks).length = 32 := by
  cases ks with
  | nil => simp [nextK]
  | cons k ks => exact h k (by simp)
def nextE (ks : List (List UInt8)) : Int := if 1 ≤ ks.length then 0 else 8
theorem nextE_y {ks : List (List UInt8)} (h : 1 ≤ ks.length) : nextE ks = 0 := by rw [nextE, if_pos h]
theorem nextE_n {ks : List (List UInt8)} (h : ¬ 1 ≤ ks.length) : nextE ks = 8 := by rw [nextE, if_neg h]
theorem nextK_n {ks : List (List UInt8)} (h : ¬ 1 ≤ ks.length) : ks = [] := List.eq_nil_of_length_eq_zero (by omega)


theorem some1y_c (bd : Nat) (v : Value) (ks : List (List UInt8)) (w0 : World) (h0 : ST w0 (Ours (esD bd v ks)) w0 (esD bd v ks)) (hk : K32 ks) (hkl : ks.length ≤ 10000) (h : 1 ≤ ks.length) : Calls Try.prog 40 #[.pointer (some ⟨bd, 0, none⟩), .int .i64 1] w0 fun e w => ∃ r v', e = .returned (.tuple #[r, .int .i64 0]) ∧ ST w0 (Ours (esD bd v ks)) w (.row r 25 32 (kc (ks.take 1)) :: esD bd v' (ks.drop 1)) :=
  (some_c bd v ks w0 h0 hk 1 hkl (by omega)).mono fun e w h2 => by unfold SomePost at h2; rw [someV_1 h] at h2; exact h2
theorem some1n_c (bd : Nat) (v : Value) (ks : List (List UInt8)) (w0 : World) (h0 : ST w0 (Ours (esD bd v ks)) w0 (esD bd v ks)) (hk : K32 ks) (hkl : ks.length ≤ 10000) (h : ¬ 1 ≤ ks.length) : Calls Try.prog 40 #[.pointer (some ⟨bd, 0, none⟩), .int .i64 1] w0 fun e w => ∃ r v', e = .returned (.tuple #[r, .int .i64 8]) ∧ ST w0 (Ours (esD bd v ks)) w (.row r 25 32 (kc []) :: esD bd v' ks) :=
  (some_c bd v ks w0 h0 hk 1 hkl (by omega)).mono fun e w h2 => by unfold SomePost at h2; rw [someV_0 h] at h2; exact h2
def NextPost (bd : Nat) (v : Value) (ks : List (List UInt8)) (w0 : World) (e : Ending) (w : World) : Prop :=
  ∃ v', e = .returned (.tuple #[.agg (bs8 (nextK ks)).toArray, .int .i64 (nextE ks)]) ∧ ST w0 (Ours (esD bd v ks)) w (esD bd v' (ks.drop 1))

set_option maxRecDepth 100000 in
theorem next_c (bd : Nat) (v : Value) (ks : List (List UInt8)) (w0 : World) (h0 : ST w0 (Ours (esD bd v ks)) w0 (esD bd v ks)) (hk : K32 ks) (hkl : ks.length ≤ 10000) : Calls Try.prog 39 #[.pointer (some ⟨bd, 0, none⟩)] w0 (NextPost bd v ks w0) := by
  refine calls_of_WC (args := [.pointer (some ⟨bd, 0, none⟩)]) Try.func39 rfl Try.ntmps39 rfl ?_
  show WC _ _ _ _ [(0, .pointer (some ⟨bd, 0, none⟩))] _
  have hS : ST w0 (Ours (esD bd v ks)) w0 (esD bd v ks) := h0
  unfold esD at hS
  refine WC.seq ?_
  refine WC.region ?_
  refine WL.alloc hS zeroT_25 rfl ?_
  intro b2 w hb2 hS
  refine WL.pv (pv_assign rfl) rfl ?_
  refine WL.nil ?_
  refine QN.thenW ?_
  refine WC.seq ?_
  by_cases hpos : 1 ≤ ks.length
  · skip
    refine WC.region ?_
    refine WL.pv (pv_move rfl) rfl ?_
    refine WL.call (args := [.tmp 7, .const (.int .i64 1)]) cf_40 rfl rfl (some1y_c bd v ks _ (ST.part (fr := [.blk b2 25 (List.replicate 32 (b8 0))]) (es := esD bd v ks) hS) hk hkl hpos) ?_
    rintro _ w ⟨r, v2, rfl, hS2⟩
    refine ⟨_, rfl, ?_⟩
    replace hS := ST.call (fr := [.blk b2 25 (List.replicate 32 (b8 0))]) (es := esD bd v ks) hS hS2
    simp only [List.cons_append, List.nil_append, esD] at hS
    refine WL.pv (pv_move rfl) rfl ?_
    refine WL.pv (pv_extL rfl rfl) rfl ?_
    refine WL.pv (pv_extL rfl rfl) rfl ?_
    refine WL.pv (pv_assign rfl) rfl ?_
    refine WL.pv (pv_assign rfl) rfl ?_
    refine WL.nil ?_
    refine QN.thenW ?_
    refine WC.seq ?_
    refine WC.seq ?_
    refine WC.region ?_
    refine WL.pv (pv_move rfl) rfl ?_
    refine WL.pv (pv_neq rfl rfl) rfl ?_
    refine WL.nil ?_
    refine QN.thenW ?_
    refine WC.condDF rfl (by simp) ?_
    refine WC.skip ?_
    refine QN.thenW ?_
    refine WC.seq ?_
    refine WC.region ?_
    refine WL.pv (pv_move rfl) rfl ?_
    obtain ⟨A, m, c, rfl, hm, _, _⟩ := (hS.rw_ (k := 1) rfl).anyForm
    have hlr := (hk.take 1).len
    have hl1 : (ks.take 1).length = 1 := by rw [List.length_take]; omega
    have hm1 : m = 1 := by omega
    obtain ⟨br, o, rfl, _, _, _, hcr⟩ := (hS.rw_ (k := 1) rfl).rs.at_ (by rw [hlr]; omega)
    have hcells : ∀ j u, (bs8 (nextK ks))[j]? = some u → w.cell? ⟨br, o + 0 * 32 + j, none⟩ = some u := fun j u hu => by
      have := hcr (0 * 32 + j) u (kc_at (hk.take 1) (i := 0) (by omega) (by
        have e : (ks.take 1)[0]'(by omega) = nextK ks := by
          cases ks with
          | nil => simp at hpos
          | cons k ks => simp [nextK]
        rw [e]; exact hu))
      rwa [← Nat.add_assoc] at this
    refine WL.pv (pv_indexAddrS (j := 0) slT_45 rfl rfl rfl (by omega)) rfl ?_
    refine WL.rv (rv_loadA (by rw [aggT_25, bs8_len, nextK_len hk]) rfl hcells) rfl ?_
    refine WL.storeAll (k := 0) (vs := bs8 (nextK ks)) hS (by rw [sizeT_25, bs8_len, nextK_len hk]) rfl rfl rfl bs8_one (by rw [bs8_len, nextK_len hk]; simp) ?_
    intro w hS
    try simp only [List.set] at hS
    refine WL.pv (pv_assign rfl) rfl ?_
    refine WL.nil ?_
    refine QN.thenW ?_
    refine WC.ret ?_
    refine QN.retKT (k := 0) rfl rfl hS rfl (by rw [aggT_25, bs8_len, nextK_len hk]) rfl ?_
    have hSr := (hS.erase 0).erase 0
    simp only [List.eraseIdx_zero, List.tail_cons] at hSr
    exact ⟨_, by rw [nextE_y hpos], hSr⟩
  · skip
    refine WC.region ?_
    refine WL.pv (pv_move rfl) rfl ?_
    refine WL.call (args := [.tmp 7, .const (.int .i64 1)]) cf_40 rfl rfl (some1n_c bd v ks _ (ST.part (fr := [.blk b2 25 (List.replicate 32 (b8 0))]) (es := esD bd v ks) hS) hk hkl hpos) ?_
    rintro _ w ⟨r, v2, rfl, hS2⟩
    refine ⟨_, rfl, ?_⟩
    replace hS := ST.call (fr := [.blk b2 25 (List.replicate 32 (b8 0))]) (es := esD bd v ks) hS hS2
    simp only [List.cons_append, List.nil_append, esD] at hS
    refine WL.pv (pv_move rfl) rfl ?_
    refine WL.pv (pv_extL rfl rfl) rfl ?_
    refine WL.pv (pv_extL rfl rfl) rfl ?_
    refine WL.pv (pv_assign rfl) rfl ?_
    refine WL.pv (pv_assign rfl) rfl ?_
    refine WL.nil ?_
    refine QN.thenW ?_
    refine WC.seq ?_
    refine WC.seq ?_
    refine WC.region ?_
    refine WL.pv (pv_move rfl) rfl ?_
    refine WL.pv (pv_neq rfl rfl) rfl ?_
    refine WL.nil ?_
    refine QN.thenW ?_
    refine WC.condDT rfl (by simp) ?_
    refine WC.seq ?_
    refine WC.region ?_
    refine WL.pv (pv_buildA (parts := []) arrT_25 zeroT_25 rfl rfl) rfl ?_
    refine WL.pv (pv_move rfl) rfl ?_
    refine WL.storeAll (k := 0) (vs := _) hS (by rw [sizeT_25]; simp) rfl rfl rfl (by first | (simp; done) | simp [Value.oneCell']) (by simp) ?_
    intro w hS
    try simp only [List.set] at hS
    refine WL.pv (pv_assign rfl) rfl ?_
    refine WL.nil ?_
    refine QN.thenW ?_
    refine WC.ret ?_
    refine QN.thenR ?_
    refine QN.retKT (k := 0) rfl rfl hS rfl (by rw [aggT_25]; simp) rfl ?_
    obtain rfl := nextK_n hpos
    have hSr := (hS.erase 0).erase 0
    simp only [List.eraseIdx_zero, List.tail_cons] at hSr
    exact ⟨_, by rw [nextE_n hpos, nextK, List.headD_nil, ← bs8_rep], hSr⟩

end Go.Proofs.Ytjcebkhhgdgohaa
namespace Go.Proofs.Ytjcebkhhgdgohaa
open Go Go.RowKit Go.Eng
theorem aggT_59 : aggT Try.prog 59 = some 16 := by kernel_rfl
theorem arrT_59 : arrT Try.prog 59 = some (16, 1) := by kernel_rfl
theorem cf_39 : callable Try.prog 39 = true := by kernel_rfl
theorem sizeT_59 : sizeT Try.prog 59 = some 16 := by kernel_rfl
theorem zeroT_59 : zeroT Try.prog 59 = some (List.replicate 16 (b8 0)) := by kernel_rfl

def idV (k : List UInt8) : List UInt8 := (shaV k).take 16
theorem idV_len (k : List UInt8) : (idV k).length = 16 := by rw [idV, List.length_take, shaV_len]; rfl
theorem idV_at {k0 : List UInt8} {k : Nat} (h : k < 16) (h2 : k < (shaV k0).length) : (shaV k0)[k] = (idV k0).getD k 0 := by
  rw [List.getD_eq_getElem?_getD, idV, List.getElem?_take, if_pos h, List.getElem?_eq_getElem h2]; rfl
def idK (ks : List (List UInt8)) : List UInt8 := if 1 ≤ ks.length then idV (nextK ks) else List.replicate 16 0
theorem idK_y {ks : List (List UInt8)} (h : 1 ≤ ks.length) : idK ks = idV (nextK ks) := by rw [idK, if_pos h]
theorem idK_n {ks : List (List UInt8)} (h : ¬ 1 ≤ ks.length) : idK ks = List.replicate 16 0 := by rw [idK, if_neg h]
theorem idK_len (ks : List (List UInt8)) : (idK ks).length = 16 := by
  unfold idK
  split
  · exact idV_len _
  · simp
theorem take_cell {w : World} {b : Nat} {t : TypeId} {l : List UInt8} {n : Nat} (h : Bk w b t (bs8 l)) {j : Nat} {u : Value} (hu : (bs8 (l.take n))[j]? = some u) : w.cell? ⟨b, 0 + 0 * 1 + j, none⟩ = some u := by
  have hj := getElem?_lt hu
  rw [bs8_len, List.length_take] at hj
  rw [show 0 + 0 * 1 + j = j from by omega, h.cell, ← hu, bs8, bs8, List.map_take, List.getElem?_take, if_pos (by omega)]
def IdPost (bd : Nat) (v : Value) (ks : List (List UInt8)) (w0 : World) (e : Ending) (w : World) : Prop :=
  ∃ v', e = .returned (.tuple #[.agg (bs8 (idK ks)).toArray, .int .i64 (nextE ks)]) ∧ ST w0 (Ours (esD bd v ks)) w (esD bd v' (ks.drop 1))

set_option maxRecDepth 100000 in
theorem id_c (bd : Nat) (v : Value) (ks : List (List UInt8)) (w0 : World) (h0 : ST w0 (Ours (esD bd v ks)) w0 (esD bd v ks)) (hk : K32 ks) (hkl : ks.length ≤ 10000) : Calls Try.prog 42 #[.pointer (some ⟨bd, 0, none⟩)] w0 (IdPost bd v ks w0) := by
  refine calls_of_WC (args := [.pointer (some ⟨bd, 0, none⟩)]) Try.func42 rfl Try.ntmps42 rfl ?_
  show WC _ _ _ _ [(0, .pointer (some ⟨bd, 0, none⟩))] _
  have hS : ST w0 (Ours (esD bd v ks)) w0 (esD bd v ks) := h0
  unfold esD at hS
  refine WC.seq ?_
  refine WC.region ?_
  refine WL.alloc hS zeroT_59 rfl ?_
  intro b2 w hb2 hS
  refine WL.pv (pv_assign rfl) rfl ?_
  refine WL.nil ?_
  refine QN.thenW ?_
  refine WC.seq ?_
  refine WC.region ?_
  refine WL.pv (pv_move rfl) rfl ?_
  refine WL.call (args := [.tmp 8]) cf_39 rfl rfl (next_c bd v ks _ (ST.part (fr := [.blk b2 59 (List.replicate 16 (b8 0))]) (es := esD bd v ks) hS) hk hkl) ?_
  rintro _ w ⟨v2, rfl, hS2⟩
  refine ⟨_, rfl, ?_⟩
  replace hS := ST.call (fr := [.blk b2 59 (List.replicate 16 (b8 0))]) (es := esD bd v ks) hS hS2
  simp only [List.cons_append, List.nil_append, esD] at hS
  refine WL.pv (pv_move rfl) rfl ?_
  refine WL.pv (pv_extL rfl rfl) rfl ?_
  refine WL.pv (pv_extL rfl rfl) rfl ?_
  refine WL.alloc hS zeroT_25 rfl ?_
  intro b4 w hb4 hS
  refine WL.storeAll (k := 0) (vs := bs8 (nextK ks)) hS (by rw [sizeT_25, bs8_len, nextK_len hk]) rfl rfl rfl bs8_one (by rw [bs8_len, nextK_len hk]; simp) ?_
  intro w hS
  try simp only [List.set] at hS
  refine WL.pv (pv_assign rfl) rfl ?_
  refine WL.nil ?_
  refine QN.thenW ?_
  refine WC.seq ?_
  refine WC.seq ?_
  by_cases hpos : 1 ≤ ks.length
  · skip
    refine WC.region ?_
    refine WL.pv (pv_move rfl) rfl ?_
    refine WL.pv (pv_neq rfl rfl) rfl ?_
    refine WL.nil ?_
    refine QN.thenW ?_
    refine WC.condDF rfl (by rw [nextE_y hpos]; simp) ?_
    refine WC.skip ?_
    refine QN.thenW ?_
    refine WC.seq ?_
    refine WC.region ?_
    refine WL.pv (pv_sliceW arrT_25 rfl) rfl ?_
    refine WL.call (args := [.tmp 16]) cf_20 rfl rfl (sum_c _ 32 32 (nextK ks) _ (Bk.rsAll (hS.bk (k := 0) rfl) (nextK_len hk) (by simp [maxLen]))) ?_
    rintro _ w ⟨rfl, hF⟩
    refine ⟨_, rfl, ?_⟩
    replace hS := hS.no hF
    refine WL.alloc hS zeroT_25 rfl ?_
    intro b6 w hb6 hS
    refine WL.storeAll (k := 0) (vs := bs8 (shaV (nextK ks))) hS (by rw [sizeT_25, bs8_len, shaV_len]) rfl rfl rfl bs8_one (by rw [bs8_len, shaV_len]; simp) ?_
    intro w hS
    try simp only [List.set] at hS
    refine WL.nil ?_
    refine QN.thenW ?_
    refine WC.seq ?_
    refine WC.region ?_
    refine WL.pv (pv_sliceA (a := 0) (b := 16) arrT_25 rfl rfl rfl rfl rfl (by omega) (by omega)) rfl ?_
    refine WL.pv (pv_s2ap arrT_59 rfl (by omega)) rfl ?_
    refine WL.rv (rv_loadA (by rw [aggT_59, bs8_len]; exact congrArg some (idV_len _).symm) rfl (fun j u hu => take_cell (hS.bk (k := 0) rfl) (l := shaV (nextK ks)) (n := 16) hu)) rfl ?_
    refine WL.storeAll (k := 2) (vs := bs8 (idV (nextK ks))) hS (by rw [sizeT_59, bs8_len, idV_len]) rfl rfl rfl bs8_one (by rw [bs8_len, idV_len]; simp) ?_
    intro w hS
    try simp only [List.set] at hS
    refine WL.pv (pv_assign rfl) rfl ?_
    refine WL.nil ?_
    refine QN.thenW ?_
    refine WC.ret ?_
    refine QN.retKT (k := 2) rfl rfl hS rfl (by rw [aggT_59, bs8_len, idV_len]) rfl ?_
    have hSr := ((hS.erase 0).erase 0).erase 0
    simp only [List.eraseIdx_zero, List.tail_cons] at hSr
    exact ⟨_, by rw [nextE_y hpos, idK_y hpos], hSr⟩
  · skip
    refine WC.region ?_
    refine WL.pv (pv_move rfl) rfl ?_
    refine WL.pv (pv_neq rfl rfl) rfl ?_
    refine WL.nil ?_
    refine QN.thenW ?_
    refine WC.condDT rfl (by rw [nextE_n hpos]; simp) ?_
    refine WC.seq ?_
    refine WC.region ?_
    refine WL.pv (pv_buildA (parts := []) arrT_59 zeroT_59 rfl rfl) rfl ?_
    refine WL.pv (pv_move rfl) rfl ?_
    refine WL.storeAll (k := 1) (vs := _) hS (by rw [sizeT_59]; simp) rfl rfl rfl (by first | (simp; done) | simp [Value.oneCell']) (by simp) ?_
    intro w hS
    try simp only [List.set] at hS
    refine WL.pv (pv_assign rfl) rfl ?_
    refine WL.nil ?_
    refine QN.thenW ?_
    refine WC.ret ?_
    refine QN.thenR ?_
    refine QN.retKT (k := 1) rfl rfl hS rfl (by rw [aggT_59]; simp) rfl ?_
    have hSr := (hS.erase 0).erase 0
    simp only [List.eraseIdx_zero, List.tail_cons] at hSr
    exact ⟨_, by rw [idK_n hpos, ← bs8_rep], hSr⟩

set_option maxRecDepth 100000 in
theorem refId_c (k0 : List UInt8) (hl : k0.length = 32) (w0 : World) : Calls Try.prog 43 #[.agg (bs8 k0).toArray] w0 fun e w => e = .returned (.agg (bs8 (idV k0)).toArray) ∧ Fr No w0 w := by
  refine calls_of_WC (args := [.agg (bs8 k0).toArray]) Try.func43 rfl Try.ntmps43 rfl ?_
  show WC _ _ _ _ [(0, .agg (bs8 k0).toArray)] _
  have hS := ST.start w0 No
  refine WC.seq ?_
  refine WC.region ?_
  refine WL.box (vs := bs8 k0) hS rfl rfl rfl ?_
  intro b1 w hb1 hS
  refine WL.alloc hS zeroT_59 rfl ?_
  intro b2 w hb2 hS
  refine WL.nil ?_
  refine QN.thenW ?_
  refine WC.seq ?_
  refine WC.region ?_
  refine WL.rv (rv_load_all (k := 1) hS rfl rfl (by rw [aggT_25, bs8_len, hl])) rfl ?_
  refine WL.call (args := [.tmp 6]) cf_63 rfl rfl (refBytes_c k0 hl _) ?_
  rintro _ w ⟨vk, rfl, hF, hRk, hfk⟩
  refine ⟨_, rfl, ?_⟩
  replace hS := hS.no hF
  obtain ⟨A4, m4, c4, rfl, _, _, _⟩ := hRk.anyForm
  refine WL.call (args := [.tmp 7]) cf_21 rfl rfl (refSum_c _ _ _ k0 _ hRk.rs (by omega)) ?_
  rintro _ w ⟨rfl, hF⟩
  refine ⟨_, rfl, ?_⟩
  replace hS := hS.no hF
  rw [← sha_eq]
  refine WL.alloc hS zeroT_25 rfl ?_
  intro b3 w hb3 hS
  refine WL.storeAll (k := 0) (vs := bs8 (shaV k0)) hS (by rw [sizeT_25, bs8_len, shaV_len]) rfl rfl rfl bs8_one (by rw [bs8_len, shaV_len]; simp) ?_
  intro w hS
  try simp only [List.set] at hS
  refine WL.nil ?_
  refine QN.thenW ?_
  refine WC.seq ?_
  refine WC.region ?_
  refine WL.pv (pv_buildA (parts := []) arrT_59 zeroT_59 rfl rfl) rfl ?_
  refine WL.alloc hS zeroT_59 rfl ?_
  intro b4 w hb4 hS
  refine WL.storeAll (k := 0) (vs := List.replicate 16 (b8 0)) hS (by rw [sizeT_59]; simp) rfl rfl rfl (by first | (simp; done) | simp [Value.oneCell']) (by simp) ?_
  intro w hS
  try simp only [List.set] at hS
  rw [bs8_rep, ← fillB_zero (fun j => (idV k0).getD j 0) 16] at hS
  refine WL.nil ?_
  refine QN.thenW ?_
  refine WC.seq ?_
  refine WC.seq ?_
  refine WC.region ?_
  refine WL.pv (pv_assign rfl) rfl ?_
  refine WL.nil ?_
  refine QN.thenW ?_
  refine WC.block ?_
  refine WC.loop (α := Nat) (fun k => [(2, .pointer (some ⟨b2, 0, none⟩)), (3, .pointer (some ⟨b3, 0, none⟩)), (4, .pointer (some ⟨b4, 0, none⟩)), (5, .int .i64 (k : Int))]) (fun k w => k ≤ 16 ∧ ST w0 No w [.blk b4 59 (bs8 (fillB (fun j => (idV k0).getD j 0) 16 k)), .blk b3 25 (bs8 (shaV k0)), .blk b2 59 (bs8 (fillB (fun j => (idV k0).getD j 0) 16 0)), .blk b1 25 (bs8 k0)]) (fun k => 16 - k) (0) (Sub.cons rfl (Sub.cons rfl (Sub.cons rfl (Sub.cons rfl Sub.nil)))) ⟨by omega, hS⟩ ?_
  rintro k w N hN hR
  obtain ⟨hk, hS⟩ := hR
  refine WC.seq ?_
  refine WC.seq ?_
  refine WC.region ?_
  refine WL.pv (pv_move rfl) rfl ?_
  refine WL.pv (pv_lss rfl rfl) rfl ?_
  refine WL.nil ?_
  refine QN.thenW ?_
  refine WC.condD rfl (fun hc11 => ?_) (fun hc11 => ?_)
  · skip
    have hk16 : k < 16 := by omega
    have hsl := shaV_len k0
    have hil := idV_len k0
    refine WC.skip ?_
    refine QN.thenW ?_
    refine WC.seq ?_
    refine WC.block ?_
    refine WC.region ?_
    refine WL.pv (pv_move rfl) rfl ?_
    refine WL.pv (pv_move rfl) rfl ?_
    refine WL.pv (pv_indexAddrA1Z (j := k) arrT_25 rfl rfl (by omega) (by omega)) rfl ?_
    refine WL.rv (rv_load_blk (k := 1) hS oneT_5 rfl rfl (bs8_at (by omega))) rfl ?_
    refine WL.pv (pv_indexAddrA1Z (j := k) arrT_59 rfl rfl (by omega) (by omega)) rfl ?_
    refine WL.store (k := 0) hS sizeT_5 rfl rfl rfl rfl (by rw [bs8_len, fillB_len]; omega) ?_
    intro w hS
    try simp only [List.set] at hS
    rw [bs8_set, show (shaV k0)[k]'(by omega) = (fun j => (idV k0).getD j 0) k from idV_at hk16 (by omega), fillB_set] at hS
    refine WL.nil ?_
    refine QN.blockN ?_
    refine QN.thenW ?_
    refine WC.region ?_
    refine WL.pv (pv_move rfl) rfl ?_
    refine WL.pv (pv_add rfl rfl (by omega)) rfl ?_
    refine WL.pv (pv_assign rfl) rfl ?_
    refine WL.nil ?_
    refine QN.roundE ?_
    refine ⟨(k + 1), (Sub.cons rfl (Sub.cons rfl (Sub.cons rfl (Sub.cons rfl Sub.nil)))), ⟨by omega, hS⟩, ?_⟩
    first | omega | (dsimp only; omega)
  · skip
    obtain rfl : k = 16 := by omega
    rw [fillB_of _ (idV_len _)] at hS
    refine WC.exit ?_
    refine QN.thenX ?_
    refine QN.thenX ?_
    refine QN.blockX ?_
    refine QN.thenW ?_
    refine WC.seq ?_
    refine WC.region ?_
    refine WL.rv (rv_load_all (k := 0) hS rfl rfl (by rw [aggT_59, bs8_len, idV_len])) rfl ?_
    refine WL.storeAll (k := 2) (vs := bs8 (idV k0)) hS (by rw [sizeT_59, bs8_len, idV_len]) rfl rfl rfl bs8_one (by rw [bs8_len, bs8_len, fillB_len, idV_len]) ?_
    intro w hS
    try simp only [List.set] at hS
    refine WL.nil ?_
    refine QN.thenW ?_
    refine WC.ret ?_
    refine QN.retK (k := 2) rfl rfl hS rfl (by rw [aggT_59, bs8_len, idV_len]) ?_
    exact ⟨rfl, hS.fr⟩


def restS (A : Option Addr) (m c n : Nat) : Value := .slice (if c = n then A else A.map (·.add (n * 32))) (m - n) (c - n)

set_option maxRecDepth 100000 in
theorem refSomeNeg_c (A : Option Addr) (m c : Nat) (w0 : World) (n : Int) (hn : n < 0) : Calls Try.prog 38 #[.slice A m c, .int .i64 n] w0 fun e w => e = .returned (.tuple #[.slice none 0 0, .slice A m c, .int .i64 14]) ∧ Fr No w0 w := by
  refine calls_of_WC (args := [.slice A m c, .int .i64 n]) Try.func38 rfl Try.ntmps38 rfl ?_
  show WC _ _ _ _ [(0, .slice A m c), (1, .int .i64 n)] _
  have hS := ST.start w0 No
  refine WC.seq ?_
  refine WC.region ?_
  refine WL.pv (pv_assign rfl) rfl ?_
  refine WL.pv (pv_assign rfl) rfl ?_
  refine WL.pv (pv_assign rfl) rfl ?_
  refine WL.nil ?_
  refine QN.thenW ?_
  refine WC.seq ?_
  refine WC.seq ?_
  refine WC.region ?_
  refine WL.pv (pv_move rfl) rfl ?_
  refine WL.pv (pv_lss rfl rfl) rfl ?_
  refine WL.nil ?_
  refine QN.thenW ?_
  refine WC.condDT rfl (by omega) ?_
  refine WC.seq ?_
  refine WC.region ?_
  refine WL.pv (pv_move rfl) rfl ?_
  refine WL.pv (pv_assign rfl) rfl ?_
  refine WL.pv (pv_assign rfl) rfl ?_
  refine WL.pv (pv_assign rfl) rfl ?_
  refine WL.nil ?_
  refine QN.thenW ?_
  refine WC.ret ?_
  refine QN.thenR ?_
  refine QN.ret3 rfl rfl rfl rfl ?_
  exact ⟨rfl, hS.fr⟩

set_option maxRecDepth 100000 in
theorem refSomeBig_c (A : Option Addr) (m c : Nat) (w0 : World) (n : Int) (hn : ¬ n < 0) (hb : (m : Int) < n) : Calls Try.prog 38 #[.slice A m c, .int .i64 n] w0 fun e w => e = .returned (.tuple #[.slice none 0 0, .slice A m c, .int .i64 8]) ∧ Fr No w0 w := by
  refine calls_of_WC (args := [.slice A m c, .int .i64 n]) Try.func38 rfl Try.ntmps38 rfl ?_
  show WC _ _ _ _ [(0, .slice A m c), (1, .int .i64 n)] _
  have hS := ST.start w0 No
  refine WC.seq ?_
  refine WC.region ?_
  refine WL.pv (pv_assign rfl) rfl ?_
  refine WL.pv (pv_assign rfl) rfl ?_
  refine WL.pv (pv_assign rfl) rfl ?_
  refine WL.nil ?_
  refine QN.thenW ?_
  refine WC.seq ?_
  refine WC.seq ?_
  refine WC.region ?_
  refine WL.pv (pv_move rfl) rfl ?_
  refine WL.pv (pv_lss rfl rfl) rfl ?_
  refine WL.nil ?_
  refine QN.thenW ?_
  refine WC.condDF rfl (by omega) ?_
  refine WC.skip ?_
  refine QN.thenW ?_
  refine WC.seq ?_
  refine WC.seq ?_
  refine WC.region ?_
  refine WL.pv (pv_move rfl) rfl ?_
  refine WL.pv (pv_move rfl) rfl ?_
  refine WL.pv (pv_len slS_45 rfl) rfl ?_
  refine WL.pv (pv_gtr rfl rfl) rfl ?_
  refine WL.nil ?_
  refine QN.thenW ?_
  refine WC.condDT rfl (by omega) ?_
  refine WC.seq ?_
  refine WC.region ?_
  refine WL.pv (pv_move rfl) rfl ?_
  refine WL.pv (pv_assign rfl) rfl ?_
  refine WL.pv (pv_assign rfl) rfl ?_
  refine WL.pv (pv_assign rfl) rfl ?_
  refine WL.nil ?_
  refine QN.thenW ?_
  refine WC.ret ?_
  refine QN.thenR ?_
  refine QN.ret3 rfl rfl rfl rfl ?_
  exact ⟨rfl, hS.fr⟩

set_option maxRecDepth 100000 in
theorem refSomeOk_c (A : Option Addr) (m c : Nat) (w0 : World) (n : Nat) (hn : n ≤ m) (hmc : m ≤ c) : Calls Try.prog 38 #[.slice A m c, .int .i64 (n : Int)] w0 fun e w => e = .returned (.tuple #[.slice A n c, restS A m c n, .int .i64 0]) ∧ Fr No w0 w := by
  refine calls_of_WC (args := [.slice A m c, .int .i64 (n : Int)]) Try.func38 rfl Try.ntmps38 rfl ?_
  show WC _ _ _ _ [(0, .slice A m c), (1, .int .i64 (n : Int))] _
  have hS := ST.start w0 No
  refine WC.seq ?_
  refine WC.region ?_
  refine WL.pv (pv_assign rfl) rfl ?_
  refine WL.pv (pv_assign rfl) rfl ?_
  refine WL.pv (pv_assign rfl) rfl ?_
  refine WL.nil ?_
  refine QN.thenW ?_
  refine WC.seq ?_
  refine WC.seq ?_
  refine WC.region ?_
  refine WL.pv (pv_move rfl) rfl ?_
  refine WL.pv (pv_lss rfl rfl) rfl ?_
  refine WL.nil ?_
  refine QN.thenW ?_
  refine WC.condDF rfl (by omega) ?_
  refine WC.skip ?_
  refine QN.thenW ?_
  refine WC.seq ?_
  refine WC.seq ?_
  refine WC.region ?_
  refine WL.pv (pv_move rfl) rfl ?_
  refine WL.pv (pv_move rfl) rfl ?_
  refine WL.pv (pv_len slS_45 rfl) rfl ?_
  refine WL.pv (pv_gtr rfl rfl) rfl ?_
  refine WL.nil ?_
  refine QN.thenW ?_
  refine WC.condDF rfl (by omega) ?_
  refine WC.skip ?_
  refine QN.thenW ?_
  refine WC.seq ?_
  refine WC.draw (S := fun _ => True) (fuel := 9) (listed := #[false, false, false, false, false, false, false, false, false]) mixedO rfl rfl ?_
  have hS := hS.no (Fr.drew _)
  refine WH.take (listed' := #[true, false, false, false, false, false, false, false, false]) 0 rfl (by kernel_rfl) (by kernel_rfl) (by kernel_rfl) (fun _ _ _ h => h) rfl (fun w _ => PV.rv (pv_move rfl) w) trivial rfl ?_
  refine WH.take (listed' := #[true, true, false, false, false, false, false, false, false]) 1 rfl (by kernel_rfl) (by kernel_rfl) (by kernel_rfl) (fun _ _ _ h => h) rfl (fun w _ => PV.rv (pv_move rfl) w) trivial rfl ?_
  refine WH.take (listed' := #[true, true, true, false, false, false, false, false, false]) 2 rfl (by kernel_rfl) (by kernel_rfl) (by kernel_rfl) (fun _ _ _ h => h) rfl (fun w _ => PV.rv (pv_sliceH (b := n) slT_45 rfl rfl rfl (by omega)) w) trivial rfl ?_
  refine WH.take (listed' := #[true, true, true, true, false, false, false, false, false]) 3 rfl (by kernel_rfl) (by kernel_rfl) (by kernel_rfl) (fun _ _ _ h => h) rfl (fun w _ => PV.rv (pv_move rfl) w) trivial rfl ?_
  refine WH.take (listed' := #[true, true, true, true, true, false, false, false, false]) 4 rfl (by kernel_rfl) (by kernel_rfl) (by kernel_rfl) (fun _ _ _ h => h) rfl (fun w _ => PV.rv (pv_move rfl) w) trivial rfl ?_
  refine WH.take (listed' := #[true, true, true, true, true, true, false, false, false]) 5 rfl (by kernel_rfl) (by kernel_rfl) (by kernel_rfl) (fun _ _ _ h => h) rfl (fun w _ => PV.rv (pv_sliceS (lo := some (.tmp 19)) (hi := none) (mx := none) (a := n) (b := m) (c := c) slT_45 rfl rfl rfl rfl rfl rfl rfl (by simp) (by omega) (by omega) (Nat.le_refl _)) w) trivial rfl ?_
  refine WH.take (listed' := #[true, true, true, true, true, true, true, false, false]) 6 rfl (by kernel_rfl) (by kernel_rfl) (by kernel_rfl) (fun _ _ _ h => h) rfl (fun w _ => PV.rv (pv_assign rfl) w) trivial rfl ?_
  refine WH.take (listed' := #[true, true, true, true, true, true, true, true, false]) 7 rfl (by kernel_rfl) (by kernel_rfl) (by kernel_rfl) (fun _ _ _ h => h) rfl (fun w _ => PV.rv (pv_assign rfl) w) trivial rfl ?_
  refine WH.take (listed' := #[true, true, true, true, true, true, true, true, true]) 8 rfl (by kernel_rfl) (by kernel_rfl) (by kernel_rfl) (fun _ _ _ h => h) rfl (fun w _ => PV.rv (pv_assign rfl) w) trivial rfl ?_
  refine WH.done (by kernel_rfl) ?_
  refine QN.thenW ?_
  refine WC.ret ?_
  refine QN.ret3 rfl rfl rfl rfl ?_
  exact ⟨rfl, hS.fr⟩

end Go.Proofs.Ytjcebkhhgdgohaa
namespace Go.Proofs.Ytjcebkhhgdgohaa
open Go Go.RowKit Go.Eng
theorem cf_89 : callable Try.prog 89 = true := by kernel_rfl
theorem slS_141 : (slT Try.prog 141).isSome = true := by kernel_rfl
theorem slT_141 : slT Try.prog 141 = some (45, 1, 24) := by kernel_rfl
set_option maxRecDepth 100000 in
theorem same41_c (A B : Option Addr) (m c m2 c2 : Nat) (la lb : List (List UInt8)) (w0 : World) (ha : Rs w0 (.slice A m c) 32 (kc la)) (hb : Rs w0 (.slice B m2 c2) 32 (kc lb)) (hka : K32 la) (hkb : K32 lb) : Calls Try.prog 41 #[.slice A m c, .slice B m2 c2] w0 fun e w => e = .returned (.bool (decide (la = lb))) ∧ Fr No w0 w := by
  have hln := ha.lenK hka
  have hln2 := hb.lenK hkb
  have hmx : m ≤ 9223372036854775807 := by have := hln; simp only [maxLen] at this; omega
  have hmx2 : m2 ≤ 9223372036854775807 := by have := hln2; simp only [maxLen] at this; omega
  refine calls_of_WC (args := [.slice A m c, .slice B m2 c2]) Try.func41 rfl Try.ntmps41 rfl ?_
  show WC _ _ _ _ [(0, .slice A m c), (1, .slice B m2 c2)] _
  have hS := ST.start w0 No
  refine WC.seq ?_
  refine WC.region ?_
  refine WL.pv (pv_assign rfl) rfl ?_
  refine WL.nil ?_
  refine QN.thenW ?_
  refine WC.seq ?_
  refine WC.seq ?_
  refine WC.region ?_
  refine WL.pv (pv_move rfl) rfl ?_
  refine WL.pv (pv_len slS_45 rfl) rfl ?_
  refine WL.pv (pv_move rfl) rfl ?_
  refine WL.pv (pv_len slS_45 rfl) rfl ?_
  refine WL.pv (pv_neq rfl rfl) rfl ?_
  refine WL.nil ?_
  refine QN.thenW ?_
  refine WC.condD rfl (fun hc10 => ?_) (fun hc10 => ?_)
  · skip
    have hne : la ≠ lb := fun h => by rw [h] at hln; omega
    refine WC.seq ?_
    refine WC.region ?_
    refine WL.pv (pv_assign rfl) rfl ?_
    refine WL.nil ?_
    refine QN.thenW ?_
    refine WC.ret ?_
    refine QN.thenR ?_
    refine QN.ret1 rfl rfl ?_
    exact ⟨by rw [decide_eq_false hne], hS.fr⟩
  · skip
    obtain rfl : m = m2 := by omega
    have hll : la.length = lb.length := by omega
    refine WC.skip ?_
    refine QN.thenW ?_
    refine WC.seq ?_
    refine WC.seq ?_
    refine WC.region ?_
    refine WL.pv (pv_move rfl) rfl ?_
    refine WL.pv (pv_len slS_45 rfl) rfl ?_
    refine WL.pv (pv_move rfl) rfl ?_
    refine WL.nil ?_
    refine QN.thenW ?_
    refine WC.block ?_
    refine WC.loop (α := Nat) (fun k => [(0, .slice A m c), (1, .slice B m c2), (12, .int .i64 (m : Int)), (13, .int .i64 (k : Int))]) (fun k w => k ≤ m ∧ (∀ j (h1 : j < la.length) (h2 : j < lb.length), j < k → la[j] = lb[j]) ∧ ST w0 No w []) (fun k => m - k) (0) (Sub.cons rfl (Sub.cons rfl (Sub.cons rfl (Sub.cons rfl Sub.nil)))) ⟨by omega, fun j _ _ h => absurd h (by omega), hS⟩ ?_
    rintro k w N hN hR
    obtain ⟨hk, hE, hS⟩ := hR
    refine WC.seq ?_
    refine WC.region ?_
    refine WL.pv (pv_lss rfl rfl) rfl ?_
    refine WL.nil ?_
    refine QN.thenW ?_
    refine WC.seq ?_
    refine WC.condD rfl (fun hc14 => ?_) (fun hc14 => ?_)
    · skip
      have hkm : k < m := by omega
      obtain ⟨ba, oa, rfl, _, _, _, hca⟩ := ha.at_ (by rw [hka.len]; omega)
      obtain ⟨bb, ob, rfl, _, _, _, hcb⟩ := hb.at_ (by rw [hkb.len]; omega)
      have hl1 := hka _ (List.getElem_mem (show k < la.length by omega))
      have hl2 := hkb _ (List.getElem_mem (show k < lb.length by omega))
      refine WC.skip ?_
      refine QN.thenW ?_
      refine WC.seq ?_
      refine WC.block ?_
      refine WC.seq ?_
      refine WC.region ?_
      refine WL.pv (pv_move rfl) rfl ?_
      refine WL.pv (pv_assign rfl) rfl ?_
      refine WL.nil ?_
      refine QN.thenW ?_
      refine WC.seq ?_
      refine WC.still mixedO (by kernel_rfl) ?_
      have hS := hS.no (Fr.drew _)
      refine WS.pv (pv_move rfl) rfl ?_
      refine WS.pv (pv_move rfl) rfl ?_
      refine WS.pv (pv_indexAddrS (j := k) slT_45 rfl rfl (by omega) (by omega)) rfl ?_
      refine WS.rv (rv_loadA (by rw [aggT_25, bs8_len, hl1]) rfl (fun j u hu => by rw [Nat.add_assoc]; exact hS.fr.cellS (hca _ u (kc_at hka (by omega) hu)) (fun h => h))) rfl ?_
      refine WS.pv (pv_move rfl) rfl ?_
      refine WS.pv (pv_move rfl) rfl ?_
      refine WS.pv (pv_indexAddrS (j := k) slT_45 rfl rfl (by omega) (by omega)) rfl ?_
      refine WS.rv (rv_loadA (by rw [aggT_25, bs8_len, hl2]) rfl (fun j u hu => by rw [Nat.add_assoc]; exact hS.fr.cellS (hcb _ u (kc_at hkb (by omega) hu)) (fun h => h))) rfl ?_
      refine WS.pv (pv_neqA8 Try.underlying25 Try.underlying5 cellsT_5 eqgT_25 rfl rfl hl1 hl2) rfl ?_
      refine WS.done ?_
      refine QN.thenW ?_
      refine WC.cond rfl (fun hc24 => ?_) (fun hc24 => ?_)
      · skip
        have hne : la ≠ lb := fun h => by
          subst h
          simp at hc24
        refine WC.seq ?_
        refine WC.region ?_
        refine WL.pv (pv_assign rfl) rfl ?_
        refine WL.nil ?_
        refine QN.thenW ?_
        refine WC.ret ?_
        refine QN.blockR ?_
        refine QN.thenR ?_
        refine QN.thenR ?_
        refine QN.blockR ?_
        refine QN.thenR ?_
        refine QN.ret1 rfl rfl ?_
        exact ⟨by rw [decide_eq_false hne], hS.fr⟩
      · skip
        have heq : la[k]'(by omega) = lb[k]'(by omega) := by simpa using hc24
        have hE2 : ∀ j (h1 : j < la.length) (h2 : j < lb.length), j < k + 1 → la[j] = lb[j] := fun j h1 h2 hj => by
          by_cases hjk : j = k
          · subst hjk; exact heq
          · exact hE j h1 h2 (by omega)
        refine WC.skip ?_
        refine QN.blockN ?_
        refine QN.thenW ?_
        refine WC.region ?_
        refine WL.pv (pv_add rfl rfl (by omega)) rfl ?_
        refine WL.pv (pv_move rfl) rfl ?_
        refine WL.nil ?_
        refine QN.roundE ?_
        refine ⟨(k + 1), (Sub.cons rfl (Sub.cons rfl (Sub.cons rfl (Sub.cons rfl Sub.nil)))), ⟨by omega, hE2, hS⟩, ?_⟩
        first | omega | (dsimp only; omega)
    · skip
      obtain rfl : k = m := by omega
      have hEq : la = lb := List.ext_getElem hll fun j h1 h2 => hE j h1 h2 (by omega)
      refine WC.exit ?_
      refine QN.thenX ?_
      refine QN.thenX ?_
      refine QN.blockX ?_
      refine QN.thenW ?_
      refine WC.seq ?_
      refine WC.region ?_
      refine WL.pv (pv_assign rfl) rfl ?_
      refine WL.nil ?_
      refine QN.thenW ?_
      refine WC.ret ?_
      refine QN.ret1 rfl rfl ?_
      exact ⟨by rw [decide_eq_true hEq], hS.fr⟩

set_option maxRecDepth 100000 in
theorem grow_c (n : Nat) (w0 : World) (hn : n ≤ 20000) : Calls Try.prog 89 #[.slice none 0 0, .int .i64 (n : Int)] w0 (OwnN [] 25 32 w0) := by
  refine calls_of_WC (args := [.slice none 0 0, .int .i64 (n : Int)]) Try.func89 rfl Try.ntmps89 rfl ?_
  show WC _ _ _ _ [(0, .slice none 0 0), (1, .int .i64 (n : Int))] _
  have hS := ST.start w0 No
  refine WC.seq ?_
  refine WC.region ?_
  refine WL.pv (pv_assign rfl) rfl ?_
  refine WL.nil ?_
  refine QN.thenW ?_
  refine WC.seq ?_
  refine WC.seq ?_
  refine WC.region ?_
  refine WL.pv (pv_move rfl) rfl ?_
  refine WL.pv (pv_lss rfl rfl) rfl ?_
  refine WL.nil ?_
  refine QN.thenW ?_
  refine WC.condDF rfl (by omega) ?_
  refine WC.skip ?_
  refine QN.thenW ?_
  refine WC.seq ?_
  refine WC.seq ?_
  refine WC.region ?_
  refine WL.pv (pv_move rfl) rfl ?_
  refine WL.pv (pv_move rfl) rfl ?_
  refine WL.pv (pv_cap slS_45 rfl) rfl ?_
  refine WL.pv (pv_move rfl) rfl ?_
  refine WL.pv (pv_len slS_45 rfl) rfl ?_
  refine WL.pv (pv_subN (a := 0) (b := 0) rfl rfl (by omega) (by omega)) rfl ?_
  refine WL.pv (pv_subN (a := n) (b := 0) rfl rfl (by omega) (by omega)) rfl ?_
  refine WL.pv (pv_assign rfl) rfl ?_
  refine WL.nil ?_
  refine QN.thenW ?_
  refine WC.seq ?_
  refine WC.region ?_
  refine WL.pv (pv_move rfl) rfl ?_
  refine WL.pv (pv_gtr rfl rfl) rfl ?_
  refine WL.nil ?_
  refine QN.thenW ?_
  refine WC.condD rfl (fun hc16 => ?_) (fun hc16 => ?_)
  · skip
    replace hS := hS.addNil 25 32
    refine WC.region ?_
    refine WL.pv (pv_move rfl) rfl ?_
    refine WL.pv (pv_move rfl) rfl ?_
    refine WL.pv (pv_cap slS_45 rfl) rfl ?_
    refine WL.pv (pv_sliceH (b := 0) slT_45 rfl rfl (by first | rfl | (simp only [bnd]; congr 1; omega)) (by omega)) rfl ?_
    refine WL.pv (pv_move rfl) rfl ?_
    refine WL.appendZ (k := 0) (N := 65536) (q := n) hS slT_45 zeroT_25 (by simp) Try.underlying3 (by decide) (by simp [Value.oneCell']) rfl rfl rfl (by simp; omega) (by omega) (by simp [maxLen]) rfl ?_
    intro v22 w hFr22 hS
    try simp only [List.set] at hS
    obtain ⟨A3, m3, c3, rfl, _, _, _⟩ := (hS.rw_ (k := 0) rfl).anyForm
    refine WL.pv (pv_move rfl) rfl ?_
    refine WL.pv (pv_len slS_45 rfl) rfl ?_
    refine WL.pv (pv_sliceH (b := 0) slT_45 rfl rfl (by first | rfl | (simp only [bnd]; congr 1; omega)) (by omega)) rfl ?_
    refine WL.pv (pv_assign rfl) rfl ?_
    refine WL.nil ?_
    refine QN.thenW ?_
    refine WC.seq ?_
    refine WC.region ?_
    refine WL.pv (pv_move rfl) rfl ?_
    refine WL.pv (pv_assign rfl) rfl ?_
    refine WL.nil ?_
    refine QN.thenW ?_
    refine WC.ret ?_
    refine QN.ret1 rfl rfl ?_
    exact ⟨_, rfl, hS.cut0 (k := 0) rfl |>.fr, (hS.cut0 (k := 0) rfl).rw_ (k := 0) rfl, fun b hb => ((hS.cut0 (k := 0) rfl).own' (i := 0) rfl hb).resolve_right (fun h => h)⟩
  · skip
    refine WC.skip ?_
    refine QN.thenW ?_
    refine WC.seq ?_
    refine WC.region ?_
    refine WL.pv (pv_move rfl) rfl ?_
    refine WL.pv (pv_assign rfl) rfl ?_
    refine WL.nil ?_
    refine QN.thenW ?_
    refine WC.ret ?_
    refine QN.ret1 rfl rfl ?_
    exact ⟨_, rfl, hS.fr, .inl ⟨rfl, rfl⟩, fun b hb => by simp [Value.ownBlock] at hb⟩


theorem tot_succ {kss : List (List (List UInt8))} {k : Nat} (h : k < kss.length) : (kss.take (k + 1)).flatten = (kss.take k).flatten ++ kss[k] := by
  rw [List.take_succ_eq_append_getElem h, List.flatten_append, List.flatten_singleton]
theorem tot_le (kss : List (List (List UInt8))) (k : Nat) : (kss.take k).flatten.length ≤ kss.flatten.length := by
  have : kss.flatten = (kss.take k).flatten ++ (kss.drop k).flatten := by rw [← List.flatten_append, List.take_append_drop]
  rw [this, List.length_append]; omega
theorem K32.flat {kss : List (List (List UInt8))} (h : ∀ ks ∈ kss, K32 ks) : K32 kss.flatten := fun k hk => by
  obtain ⟨ks, h1, h2⟩ := List.mem_flatten.1 hk
  exact h ks h1 k h2

set_option maxRecDepth 100000 in
theorem concat_c (B : Option Addr) (m c : Nat) (vs : List Value) (kss : List (List (List UInt8))) (w0 : World) (hb : Rs w0 (.slice B m c) 1 vs) (hvl : vs.length = kss.length) (hv : ∀ i (h1 : i < vs.length) (h2 : i < kss.length), Rs w0 vs[i] 32 (kc kss[i])) (hk : ∀ ks ∈ kss, K32 ks) (hm : m ≤ 10) (ht : kss.flatten.length ≤ 10000) : Calls Try.prog 68 #[.slice B m c] w0 (OwnN (kc kss.flatten) 25 32 w0) := by
  have hln0 := hb.len
  rw [Nat.mul_one] at hln0
  refine calls_of_WC (args := [.slice B m c]) Try.func68 rfl Try.ntmps68 rfl ?_
  show WC _ _ _ _ [(0, .slice B m c)] _
  have hS := ST.start w0 No
  refine WC.seq ?_
  refine WC.region ?_
  refine WL.pv (pv_assign rfl) rfl ?_
  refine WL.nil ?_
  refine QN.thenW ?_
  refine WC.seq ?_
  refine WC.region ?_
  refine WL.pv (pv_assign rfl) rfl ?_
  refine WL.nil ?_
  refine QN.thenW ?_
  refine WC.seq ?_
  refine WC.seq ?_
  refine WC.region ?_
  refine WL.pv (pv_move rfl) rfl ?_
  refine WL.pv (pv_len slS_141 rfl) rfl ?_
  refine WL.pv (pv_move rfl) rfl ?_
  refine WL.nil ?_
  refine QN.thenW ?_
  refine WC.block ?_
  refine WC.loop (α := Nat) (fun k => [(0, .slice B m c), (3, .int .i64 (((kss.take k).flatten.length : Nat) : Int)), (9, .slice B m c), (10, .int .i64 (m : Int)), (11, .int .i64 (k : Int))]) (fun k w => k ≤ m ∧ ST w0 No w []) (fun k => m - k) (0) (Sub.cons rfl (Sub.cons rfl (Sub.cons rfl (Sub.cons rfl (Sub.cons rfl Sub.nil))))) ⟨by omega, hS⟩ ?_
  rintro k w N hN hR
  obtain ⟨hk0, hS⟩ := hR
  have htk := tot_le kss k
  refine WC.seq ?_
  refine WC.region ?_
  refine WL.pv (pv_lss rfl rfl) rfl ?_
  refine WL.nil ?_
  refine QN.thenW ?_
  refine WC.seq ?_
  refine WC.condD rfl (fun hc12 => ?_) (fun hc12 => ?_)
  · skip
    have hkm : k < m := by omega
    obtain ⟨bb, ob, rfl, _, _, _, hcb⟩ := hb.at_ (by omega)
    have hvk := hv k (by omega) (by omega)
    obtain ⟨A', n', c', hv', _, _, _, _⟩ := id hvk
    rw [hv'] at hvk
    have hln := hvk.lenK (hk _ (List.getElem_mem (by omega)))
    have hcell := hcb k _ (by rw [List.getElem?_eq_getElem (by omega), hv'])
    have htk2 := tot_le kss (k + 1)
    have hts := tot_succ (kss := kss) (k := k) (by omega)
    rw [hts, List.length_append] at htk2
    have hsub : some (Value.int .i64 (((((kss.take k).flatten.length : Nat)) : Int) + (n' : Int))) = some (.int .i64 (((kss.take (k + 1)).flatten.length : Nat) : Int)) := by rw [hts, List.length_append, hln.1]; simp
    refine WC.skip ?_
    refine QN.thenW ?_
    refine WC.seq ?_
    refine WC.block ?_
    refine WC.seq ?_
    refine WC.region ?_
    refine WL.pv (pv_indexAddrS1 (j := k) slT_141 rfl rfl (by omega) (by omega)) rfl ?_
    refine WL.rv (rv_load oneT_45 rfl (hS.fr.cellS hcell (fun h => h))) rfl ?_
    refine WL.pv (pv_assign rfl) rfl ?_
    refine WL.nil ?_
    refine QN.thenW ?_
    refine WC.seq ?_
    refine WC.region ?_
    refine WL.pv (pv_move rfl) rfl ?_
    refine WL.pv (pv_move rfl) rfl ?_
    refine WL.pv (pv_len slS_45 rfl) rfl ?_
    refine WL.pv (pv_add rfl rfl (by omega)) rfl ?_
    refine WL.pv (pv_assign rfl) rfl ?_
    refine WL.nil ?_
    refine QN.thenW ?_
    refine WC.seq ?_
    refine WC.region ?_
    refine WL.pv (pv_move rfl) rfl ?_
    refine WL.pv (pv_lss rfl rfl) rfl ?_
    refine WL.nil ?_
    refine QN.thenW ?_
    refine WC.condDF rfl (by omega) ?_
    refine WC.skip ?_
    refine QN.blockN ?_
    refine QN.thenW ?_
    refine WC.region ?_
    refine WL.pv (pv_add rfl rfl (by omega)) rfl ?_
    refine WL.pv (pv_move rfl) rfl ?_
    refine WL.nil ?_
    refine QN.roundE ?_
    refine ⟨(k + 1), (Sub.cons rfl (Sub.cons hsub (Sub.cons rfl (Sub.cons rfl (Sub.cons rfl Sub.nil))))), ⟨by omega, hS⟩, ?_⟩
    first | omega | (dsimp only; omega)
  · skip
    obtain rfl : m = k := by omega
    have e2 : kss.take m = kss := List.take_of_length_le (by omega)
    refine WC.exit ?_
    refine QN.thenX ?_
    refine QN.thenX ?_
    refine QN.blockX ?_
    refine QN.thenW ?_
    refine WC.seq ?_
    refine WC.region ?_
    refine WL.pv (pv_move rfl) rfl ?_
    refine WL.call (args := [.const (.slice none 0 0), .tmp 23]) cf_89 rfl rfl (grow_c _ _ (by omega)) ?_
    rintro _ w ⟨v6, rfl, hF, hR6, hf6⟩
    refine ⟨_, rfl, ?_⟩
    replace hS := hS.add (e := .row v6 25 32 []) hF hR6 hf6
    refine WL.pv (pv_assign rfl) rfl ?_
    refine WL.nil ?_
    refine QN.thenW ?_
    refine WC.seq ?_
    refine WC.seq ?_
    refine WC.region ?_
    refine WL.pv (pv_move rfl) rfl ?_
    refine WL.pv (pv_len slS_141 rfl) rfl ?_
    refine WL.pv (pv_move rfl) rfl ?_
    refine WL.nil ?_
    refine QN.thenW ?_
    refine WC.block ?_
    refine WC.loop (α := Nat × Value) (fun s => [(0, .slice B m c), (6, s.2), (25, .slice B m c), (26, .int .i64 (m : Int)), (27, .int .i64 (s.1 : Int))]) (fun s w => s.1 ≤ m ∧ ST w0 No w [.row s.2 25 32 (kc (kss.take s.1).flatten)]) (fun s => m - s.1) ((0, v6)) (Sub.cons rfl (Sub.cons rfl (Sub.cons rfl (Sub.cons rfl (Sub.cons rfl Sub.nil))))) ⟨by show 0 ≤ _; omega, hS⟩ ?_
    rintro ⟨k, v6⟩ w N hN hR
    change N = m - k at hN
    change k ≤ m ∧ ST w0 No w [.row v6 25 32 (kc (kss.take k).flatten)] at hR
    show WC _ _ _ _ [(0, .slice B m c), (6, v6), (25, .slice B m c), (26, .int .i64 (m : Int)), (27, .int .i64 (k : Int))] _
    obtain ⟨hk0, hS⟩ := hR
    have htk := tot_le kss k
    refine WC.seq ?_
    refine WC.region ?_
    refine WL.pv (pv_lss rfl rfl) rfl ?_
    refine WL.nil ?_
    refine QN.thenW ?_
    refine WC.seq ?_
    refine WC.condD rfl (fun hc28 => ?_) (fun hc28 => ?_)
    · skip
      have hkm : k < m := by omega
      obtain ⟨bb, ob, rfl, _, _, _, hcb⟩ := hb.at_ (by omega)
      have hvk := hv k (by omega) (by omega)
      obtain ⟨A', n', c', hv', _, _, _, _⟩ := id hvk
      rw [hv'] at hvk
      have hKk := hk _ (List.getElem_mem (show k < kss.length by omega))
      have hcell := hcb k _ (by rw [List.getElem?_eq_getElem (by omega), hv'])
      have htk2 := tot_le kss (k + 1)
      have hts := tot_succ (kss := kss) (k := k) (by omega)
      have hK1 : K32 (kss.take k).flatten := K32.flat (fun ks h => hk ks (List.mem_of_mem_take h))
      rw [hts, List.length_append] at htk2
      refine WC.skip ?_
      refine QN.thenW ?_
      refine WC.seq ?_
      refine WC.block ?_
      refine WC.seq ?_
      refine WC.region ?_
      refine WL.pv (pv_indexAddrS1 (j := k) slT_141 rfl rfl (by omega) (by omega)) rfl ?_
      refine WL.rv (rv_load oneT_45 rfl (hS.fr.cellS hcell (fun h => h))) rfl ?_
      refine WL.pv (pv_assign rfl) rfl ?_
      refine WL.nil ?_
      refine QN.thenW ?_
      refine WC.region ?_
      refine WL.pv (pv_move rfl) rfl ?_
      refine WL.pv (pv_move rfl) rfl ?_
      refine WL.append (k := 0) (N := 65536) hS slT_45 zlenT_25 (by decide) rfl rfl rfl (hvk.no hS.fr) kc_one (by rw [hK1.len, hKk.len]; omega) (by omega) (by simp [maxLen]) rfl ?_
      intro v33 w hFr33 hS
      try simp only [List.set] at hS
      rw [← kc_app, ← hts] at hS
      refine WL.pv (pv_assign rfl) rfl ?_
      refine WL.nil ?_
      refine QN.blockN ?_
      refine QN.thenW ?_
      refine WC.region ?_
      refine WL.pv (pv_add rfl rfl (by omega)) rfl ?_
      refine WL.pv (pv_move rfl) rfl ?_
      refine WL.nil ?_
      refine QN.roundE ?_
      refine ⟨((k + 1, v33)), (Sub.cons rfl (Sub.cons rfl (Sub.cons rfl (Sub.cons rfl (Sub.cons rfl Sub.nil))))), ⟨by show k + 1 ≤ _; omega, hS⟩, ?_⟩
      first | omega | (dsimp only; omega)
    · skip
      obtain rfl : m = k := by omega
      have e2 : kss.take m = kss := List.take_of_length_le (by omega)
      rw [e2] at hS
      refine WC.exit ?_
      refine QN.thenX ?_
      refine QN.thenX ?_
      refine QN.blockX ?_
      refine QN.thenW ?_
      refine WC.seq ?_
      refine WC.region ?_
      refine WL.pv (pv_move rfl) rfl ?_
      refine WL.pv (pv_assign rfl) rfl ?_
      refine WL.nil ?_
      refine QN.thenW ?_
      refine WC.ret ?_
      refine QN.ret1 rfl rfl ?_
      exact ⟨_, rfl, hS.fr, hS.rw_ (k := 0) rfl, fun b hb => (hS.own' (i := 0) rfl hb).resolve_right (fun h => h)⟩

end Go.Proofs.Ytjcebkhhgdgohaa
namespace Go.Proofs.Ytjcebkhhgdgohaa
open Go Go.RowKit Go.Eng
theorem cf_36 : callable Try.prog 36 = true := by kernel_rfl
theorem cf_37 : callable Try.prog 37 = true := by kernel_rfl
theorem cf_42 : callable Try.prog 42 = true := by kernel_rfl
theorem cf_44 : callable Try.prog 44 = true := by kernel_rfl
theorem cf_45 : callable Try.prog 45 = true := by kernel_rfl
theorem cf_68 : callable Try.prog 68 = true := by kernel_rfl
theorem zeroT_45 : zeroT Try.prog 45 = some ([.slice none 0 0]) := by kernel_rfl

theorem two_k {ks ls : List (List UInt8)} (h : K32 ks) (k : K32 ls) : ∀ x ∈ [ks, ls], K32 x := fun x hx => by
  rcases List.mem_cons.1 hx with rfl | hx
  · exact h
  · rcases List.mem_cons.1 hx with rfl | hx
    · exact k
    · simp at hx

set_option maxRecDepth 100000 in
theorem more_c (bd : Nat) (v : Value) (ks : List (List UInt8)) (w0 : World) (h0 : ST w0 (Ours (esD bd v ks)) w0 (esD bd v ks)) (hk : K32 ks) (B : Option Addr) (m2 c2 : Nat) (ls : List (List UInt8)) (hl : Rs w0 (.slice B m2 c2) 32 (kc ls)) (hN : 0 < (kc ls).length → ∀ b, (Value.slice B m2 c2).ownBlock = some b → ¬ Ours (esD bd v ks) b) (hkl : K32 ls) (ht : ks.length + ls.length ≤ 10000) : Calls Try.prog 44 #[.pointer (some ⟨bd, 0, none⟩), .slice B m2 c2] w0 fun e w => e = .returned (.tuple #[]) ∧ ∃ v', ST w0 (Ours (esD bd v ks)) w (esD bd v' (ks ++ ls)) := by
  obtain ⟨A, m, c, rfl, _, _, _, _⟩ := id (st_roV h0)
  have hlk := (st_roV h0).lenK hk
  have hmx : m ≤ 9223372036854775807 := by have := hlk; simp only [maxLen] at this; omega
  refine calls_of_WC (args := [.pointer (some ⟨bd, 0, none⟩), .slice B m2 c2]) Try.func44 rfl Try.ntmps44 rfl ?_
  show WC _ _ _ _ [(0, .pointer (some ⟨bd, 0, none⟩)), (1, .slice B m2 c2)] _
  have hS : ST w0 (Ours (esD bd (.slice A m c) ks)) w0 (esD bd (.slice A m c) ks) := h0
  unfold esD at hS
  refine WC.seq ?_
  refine WC.region ?_
  refine WL.pv (pv_move rfl) rfl ?_
  refine WL.pv (pv_neqP Try.underlying47 rfl rfl (by simp)) rfl ?_
  refine WL.nil ?_
  refine QN.thenW ?_
  refine WC.condT rfl rfl ?_
  refine WC.region ?_
  refine WL.pv (pv_move rfl) rfl ?_
  refine WL.pv (pv_move rfl) rfl ?_
  refine WL.pv (pv_nil rfl) rfl ?_
  refine WL.pv (pv_fieldAddrZ fldT_108_0 rfl) rfl ?_
  refine WL.rv (rv_load_blk (k := 0) hS oneT_45 rfl rfl rfl) rfl ?_
  refine WL.pv (pv_move rfl) rfl ?_
  refine WL.build2 hS slT_141 zeroT_45 rfl rfl rfl rfl rfl rfl ?_
  intro b12 w hb12 hS
  refine WL.call (args := [.tmp 12]) cf_68 rfl rfl (concat_c _ 2 2 [.slice A m c, .slice B m2 c2] [ks, ls] _ ((hS.bk (k := 0) rfl).rs 0 2 2 1 (by omega) (by simp [maxLen]) (by simp)) rfl (fun i h1 h2 => by
    match i, h1, h2 with
    | 0, _, _ => exact hS.ro_ (k := 2) rfl
    | 1, _, _ => exact hl.frN hS.fr hN) (two_k hk hkl) (by omega) (by simp; omega)) ?_
  rintro _ w ⟨v13, rfl, hF, hR, hf⟩
  refine ⟨_, rfl, ?_⟩
  rw [show ([ks, ls] : List (List (List UInt8))).flatten = ks ++ ls from by simp] at hR
  replace hS := hS.add (e := .row v13 25 32 _) hF hR hf
  obtain ⟨A3, m3, c3, rfl, _, _, _⟩ := hR.anyForm
  refine WL.pv (pv_nil rfl) rfl ?_
  refine WL.pv (pv_fieldAddrZ fldT_108_0 rfl) rfl ?_
  refine WL.store (k := 2) hS sizeT_45 rfl rfl rfl rfl (by simp) ?_
  intro w hS
  try simp only [List.set] at hS
  refine WL.nil ?_
  refine QN.end0 rfl ?_
  replace hS := hS.toRo (k := 0) rfl
  simp only [List.set] at hS
  have hS2 := ((hS.erase 3).erase 1).top 1 rfl
  simp only [List.eraseIdx_zero, List.eraseIdx_cons_succ, List.tail_cons] at hS2
  exact ⟨rfl, _, hS2⟩


def wkL : List (List UInt8) := [1 :: List.replicate 31 0, 2 :: List.replicate 31 0]
theorem wkL_k : K32 wkL := fun k hk => by
  rcases List.mem_cons.1 hk with rfl | hk
  · rfl
  · rcases List.mem_cons.1 hk with rfl | hk
    · rfl
    · simp at hk
theorem some3_c (bd : Nat) (v : Value) (w0 : World) (h0 : ST w0 (Ours (esD bd v wkL)) w0 (esD bd v wkL)) : Calls Try.prog 40 #[.pointer (some ⟨bd, 0, none⟩), .int .i64 3] w0 fun e w => ∃ r v', e = .returned (.tuple #[r, .int .i64 8]) ∧ ST w0 (Ours (esD bd v wkL)) w (.row r 25 32 (kc []) :: esD bd v' wkL) :=
  (some_c bd v wkL w0 h0 wkL_k 3 (by simp [wkL]) (by omega)).mono fun e w h2 => by
    unfold SomePost at h2; rw [someV_big (by omega) (by simp [wkL])] at h2; exact h2

set_option maxRecDepth 100000 in
theorem wakesD_c (w0 : World) : Calls Try.prog 36 #[] w0 fun e w => e = .returned (.bool true) ∧ Fr No w0 w := by
  refine calls_of_WC (args := []) Try.func36 rfl Try.ntmps36 rfl ?_
  show WC _ _ _ _ [] _
  have hS := ST.start w0 No
  refine WC.seq ?_
  refine WC.region ?_
  refine WL.pv (pv_assign rfl) rfl ?_
  refine WL.nil ?_
  refine QN.thenW ?_
  refine WC.seq ?_
  refine WC.region ?_
  refine WL.pv (pv_buildA (parts := [(0, .const (.int .u8 1))]) (cells := bs8 (1 :: List.replicate 31 0)) arrT_25 zeroT_25 rfl rfl) rfl ?_
  refine WL.pv (pv_buildA (parts := [(0, .const (.int .u8 2))]) (cells := bs8 (2 :: List.replicate 31 0)) arrT_25 zeroT_25 rfl rfl) rfl ?_
  refine WL.buildV (parts := [(0, .tmp 4), (1, .tmp 5)]) (vs := [.agg (bs8 (1 :: List.replicate 31 0)).toArray, .agg (bs8 (2 :: List.replicate 31 0)).toArray]) hS slT_45 zeroT_25 (by simp) rfl rfl rfl (by simp [Value.cells, bs8_len]) rfl rfl ?_
  intro b6 w hb6 hS
  change ST _ _ w [.blk b6 25 (kc wkL)] at hS
  refine WL.call (args := [.tmp 6]) cf_37 rfl rfl (newD_c _ 2 2 wkL _ ((hS.bk (k := 0) rfl).rs 0 2 2 32 (by omega) (by simp [maxLen]) (by rw [wkL_k.len]; simp [wkL])) wkL_k (by simp [wkL])) ?_
  rintro _ w ⟨bd, v, rfl, hS2⟩
  refine ⟨_, rfl, ?_⟩
  replace hS := (hS.erase 0).join hS2
  simp only [List.eraseIdx_zero, List.tail_cons, List.append_nil] at hS
  refine WL.pv (pv_assign rfl) rfl ?_
  refine WL.nil ?_
  refine QN.thenW ?_
  refine WC.seq ?_
  refine WC.region ?_
  refine WL.pv (pv_move rfl) rfl ?_
  refine WL.call (args := [.tmp 9, .const (.int .i64 3)]) cf_40 rfl rfl (some3_c bd v _ (ST.part (fr := []) hS)) ?_
  rintro _ w ⟨r, v2, rfl, hS3⟩
  refine ⟨_, rfl, ?_⟩
  replace hS := ST.call (fr := []) hS hS3
  replace hS : ST _ _ w (esD bd v2 wkL) := hS.drop
  refine WL.pv (pv_move rfl) rfl ?_
  refine WL.pv (pv_extL rfl rfl) rfl ?_
  refine WL.pv (pv_extL rfl rfl) rfl ?_
  refine WL.pv (pv_assign rfl) rfl ?_
  refine WL.pv (pv_assign rfl) rfl ?_
  refine WL.nil ?_
  refine QN.thenW ?_
  refine WC.seq ?_
  refine WC.region ?_
  refine WL.pv (pv_move rfl) rfl ?_
  refine WL.pv (pv_eql rfl rfl) rfl ?_
  refine WL.pv (pv_move rfl) rfl ?_
  refine WL.guardT rfl rfl rfl (lkT rfl (by rfl)) ?_
  refine WL.pv (pv_move rfl) rfl ?_
  refine WL.guardT rfl rfl rfl (lkT rfl (by rfl)) ?_
  refine WL.call (args := [.tmp 16]) cf_45 rfl rfl (left_c bd v2 wkL _ (ST.part (fr := []) hS) wkL_k) ?_
  rintro _ w ⟨rfl, hF⟩
  refine ⟨_, rfl, ?_⟩
  replace hS := hS.no hF
  refine WL.guardT rfl rfl rfl (lkT rfl (by rfl)) ?_
  refine WL.pv (pv_eql rfl rfl) rfl ?_
  refine WL.pv (pv_pick1 (lkT rfl (by rfl)) rfl) rfl ?_
  refine WL.pv (pv_assign rfl) rfl ?_
  refine WL.nil ?_
  refine QN.thenW ?_
  refine WC.ret ?_
  refine QN.ret1 rfl rfl ?_
  exact ⟨rfl, hS.fr⟩

set_option maxRecDepth 100000 in
theorem someNil_c (n : Int) (w0 : World) : Calls Try.prog 40 #[.pointer none, .int .i64 n] w0 fun e w => e = .returned (.tuple #[.slice none 0 0, .int .i64 15]) ∧ Fr No w0 w := by
  refine calls_of_WC (args := [.pointer none, .int .i64 n]) Try.func40 rfl Try.ntmps40 rfl ?_
  show WC _ _ _ _ [(0, .pointer none), (1, .int .i64 n)] _
  have hS := ST.start w0 No
  refine WC.seq ?_
  refine WC.region ?_
  refine WL.pv (pv_assign rfl) rfl ?_
  refine WL.pv (pv_assign rfl) rfl ?_
  refine WL.nil ?_
  refine QN.thenW ?_
  refine WC.seq ?_
  refine WC.block ?_
  refine WC.seq ?_
  refine WC.region ?_
  refine WL.pv (pv_move rfl) rfl ?_
  refine WL.pv (pv_eqlP Try.underlying47 rfl rfl (by simp)) rfl ?_
  refine WL.pv (pv_assign rfl) rfl ?_
  refine WL.nil ?_
  refine QN.thenW ?_
  refine WC.condT rfl rfl ?_
  refine WC.seq ?_
  refine WC.region ?_
  refine WL.pv (pv_assign rfl) rfl ?_
  refine WL.pv (pv_assign rfl) rfl ?_
  refine WL.nil ?_
  refine QN.thenW ?_
  refine WC.ret ?_
  refine QN.blockR ?_
  refine QN.thenR ?_
  refine QN.ret2 rfl rfl rfl ?_
  exact ⟨rfl, hS.fr⟩

set_option maxRecDepth 100000 in
theorem nextNil_c (w0 : World) : Calls Try.prog 39 #[.pointer none] w0 fun e w => e = .returned (.tuple #[.agg (bs8 (List.replicate 32 0)).toArray, .int .i64 15]) ∧ Fr No w0 w := by
  refine calls_of_WC (args := [.pointer none]) Try.func39 rfl Try.ntmps39 rfl ?_
  show WC _ _ _ _ [(0, .pointer none)] _
  have hS := ST.start w0 No
  refine WC.seq ?_
  refine WC.region ?_
  refine WL.alloc hS zeroT_25 rfl ?_
  intro b2 w hb2 hS
  refine WL.pv (pv_assign rfl) rfl ?_
  refine WL.nil ?_
  refine QN.thenW ?_
  refine WC.seq ?_
  refine WC.region ?_
  refine WL.pv (pv_move rfl) rfl ?_
  refine WL.call (args := [.tmp 7, .const (.int .i64 1)]) cf_40 rfl rfl (someNil_c 1 _) ?_
  rintro _ w ⟨rfl, hF⟩
  refine ⟨_, rfl, ?_⟩
  replace hS := hS.no hF
  refine WL.pv (pv_move rfl) rfl ?_
  refine WL.pv (pv_extL rfl rfl) rfl ?_
  refine WL.pv (pv_extL rfl rfl) rfl ?_
  refine WL.pv (pv_assign rfl) rfl ?_
  refine WL.pv (pv_assign rfl) rfl ?_
  refine WL.nil ?_
  refine QN.thenW ?_
  refine WC.seq ?_
  refine WC.seq ?_
  refine WC.region ?_
  refine WL.pv (pv_move rfl) rfl ?_
  refine WL.pv (pv_neq rfl rfl) rfl ?_
  refine WL.nil ?_
  refine QN.thenW ?_
  refine WC.condDT rfl (by simp) ?_
  refine WC.seq ?_
  refine WC.region ?_
  refine WL.pv (pv_buildA (parts := []) arrT_25 zeroT_25 rfl rfl) rfl ?_
  refine WL.pv (pv_move rfl) rfl ?_
  refine WL.storeAll (k := 0) (vs := _) hS (by rw [sizeT_25]; simp) rfl rfl rfl (by first | (simp; done) | simp [Value.oneCell']) (by simp) ?_
  intro w hS
  try simp only [List.set] at hS
  refine WL.pv (pv_assign rfl) rfl ?_
  refine WL.nil ?_
  refine QN.thenW ?_
  refine WC.ret ?_
  refine QN.thenR ?_
  refine QN.retKT (k := 0) rfl rfl hS rfl (by rw [aggT_25]; simp) rfl ?_
  exact ⟨by rw [← bs8_rep], hS.fr⟩

set_option maxRecDepth 100000 in
theorem idNil_c (w0 : World) : Calls Try.prog 42 #[.pointer none] w0 fun e w => e = .returned (.tuple #[.agg (bs8 (List.replicate 16 0)).toArray, .int .i64 15]) ∧ Fr No w0 w := by
  refine calls_of_WC (args := [.pointer none]) Try.func42 rfl Try.ntmps42 rfl ?_
  show WC _ _ _ _ [(0, .pointer none)] _
  have hS := ST.start w0 No
  refine WC.seq ?_
  refine WC.region ?_
  refine WL.alloc hS zeroT_59 rfl ?_
  intro b2 w hb2 hS
  refine WL.pv (pv_assign rfl) rfl ?_
  refine WL.nil ?_
  refine QN.thenW ?_
  refine WC.seq ?_
  refine WC.region ?_
  refine WL.pv (pv_move rfl) rfl ?_
  refine WL.call (args := [.tmp 8]) cf_39 rfl rfl (nextNil_c _) ?_
  rintro _ w ⟨rfl, hF⟩
  refine ⟨_, rfl, ?_⟩
  replace hS := hS.no hF
  refine WL.pv (pv_move rfl) rfl ?_
  refine WL.pv (pv_extL rfl rfl) rfl ?_
  refine WL.pv (pv_extL rfl rfl) rfl ?_
  refine WL.alloc hS zeroT_25 rfl ?_
  intro b4 w hb4 hS
  refine WL.storeAll (k := 0) (vs := bs8 (List.replicate 32 0)) hS (by rw [sizeT_25, bs8_len]; simp) rfl rfl rfl bs8_one (by rw [bs8_len]; simp) ?_
  intro w hS
  try simp only [List.set] at hS
  refine WL.pv (pv_assign rfl) rfl ?_
  refine WL.nil ?_
  refine QN.thenW ?_
  refine WC.seq ?_
  refine WC.seq ?_
  refine WC.region ?_
  refine WL.pv (pv_move rfl) rfl ?_
  refine WL.pv (pv_neq rfl rfl) rfl ?_
  refine WL.nil ?_
  refine QN.thenW ?_
  refine WC.condDT rfl (by simp) ?_
  refine WC.seq ?_
  refine WC.region ?_
  refine WL.pv (pv_buildA (parts := []) arrT_59 zeroT_59 rfl rfl) rfl ?_
  refine WL.pv (pv_move rfl) rfl ?_
  refine WL.storeAll (k := 1) (vs := _) hS (by rw [sizeT_59]; simp) rfl rfl rfl (by first | (simp; done) | simp [Value.oneCell']) (by simp) ?_
  intro w hS
  try simp only [List.set] at hS
  refine WL.pv (pv_assign rfl) rfl ?_
  refine WL.nil ?_
  refine QN.thenW ?_
  refine WC.ret ?_
  refine QN.thenR ?_
  refine QN.retKT (k := 1) rfl rfl hS rfl (by rw [aggT_59]; simp) rfl ?_
  exact ⟨by rw [← bs8_rep], hS.fr⟩

set_option maxRecDepth 100000 in
theorem moreNil_c (B : Option Addr) (m2 c2 : Nat) (w0 : World) : Calls Try.prog 44 #[.pointer none, .slice B m2 c2] w0 fun e w => e = .returned (.tuple #[]) ∧ Fr No w0 w := by
  refine calls_of_WC (args := [.pointer none, .slice B m2 c2]) Try.func44 rfl Try.ntmps44 rfl ?_
  show WC _ _ _ _ [(0, .pointer none), (1, .slice B m2 c2)] _
  have hS := ST.start w0 No
  refine WC.seq ?_
  refine WC.region ?_
  refine WL.pv (pv_move rfl) rfl ?_
  refine WL.pv (pv_neqP Try.underlying47 rfl rfl (by simp)) rfl ?_
  refine WL.nil ?_
  refine QN.thenW ?_
  refine WC.condF rfl rfl ?_
  refine WC.skip ?_
  refine QN.end0 rfl ?_
  exact ⟨rfl, hS.fr⟩

set_option maxRecDepth 100000 in
theorem leftNil_c (w0 : World) : Calls Try.prog 45 #[.pointer none] w0 fun e w => e = .returned (.int .i64 0) ∧ Fr No w0 w := by
  refine calls_of_WC (args := [.pointer none]) Try.func45 rfl Try.ntmps45 rfl ?_
  show WC _ _ _ _ [(0, .pointer none)] _
  have hS := ST.start w0 No
  refine WC.seq ?_
  refine WC.region ?_
  refine WL.pv (pv_assign rfl) rfl ?_
  refine WL.nil ?_
  refine QN.thenW ?_
  refine WC.seq ?_
  refine WC.seq ?_
  refine WC.region ?_
  refine WL.pv (pv_move rfl) rfl ?_
  refine WL.pv (pv_eqlP Try.underlying47 rfl rfl (by simp)) rfl ?_
  refine WL.nil ?_
  refine QN.thenW ?_
  refine WC.condT rfl rfl ?_
  refine WC.seq ?_
  refine WC.region ?_
  refine WL.pv (pv_assign rfl) rfl ?_
  refine WL.nil ?_
  refine QN.thenW ?_
  refine WC.ret ?_
  refine QN.thenR ?_
  refine QN.ret1 rfl rfl ?_
  exact ⟨rfl, hS.fr⟩

set_option maxRecDepth 100000 in
theorem drawsNil_c (A : Option Addr) (m c : Nat) (n : Int) (w0 : World) : Calls Try.prog 14 #[.slice A m c, .int .i64 n] w0 fun e w => e = .returned (.bool true) ∧ Fr No w0 w := by
  refine calls_of_WC (args := [.slice A m c, .int .i64 n]) Try.func14 rfl Try.ntmps14 rfl ?_
  show WC _ _ _ _ [(0, .slice A m c), (1, .int .i64 n)] _
  have hS := ST.start w0 No
  refine WC.seq ?_
  refine WC.region ?_
  refine WL.pv (pv_assign rfl) rfl ?_
  refine WL.nil ?_
  refine QN.thenW ?_
  refine WC.seq ?_
  refine WC.region ?_
  refine WL.pv (pv_assign rfl) rfl ?_
  refine WL.nil ?_
  refine QN.thenW ?_
  refine WC.seq ?_
  refine WC.seq ?_
  refine WC.region ?_
  refine WL.call (args := []) cf_36 rfl rfl (wakesD_c _) ?_
  rintro _ w ⟨rfl, hF⟩
  refine ⟨_, rfl, ?_⟩
  replace hS := hS.no hF
  refine WL.pv (pv_not rfl) rfl ?_
  refine WL.nil ?_
  refine QN.thenW ?_
  refine WC.condF rfl rfl ?_
  refine WC.skip ?_
  refine QN.thenW ?_
  refine WC.seq ?_
  refine WC.region ?_
  refine WL.pv (pv_move rfl) rfl ?_
  refine WL.pv (pv_move rfl) rfl ?_
  refine WL.call (args := [.tmp 14, .tmp 15]) cf_44 rfl rfl (moreNil_c _ _ _ _) ?_
  rintro _ w ⟨rfl, hF⟩
  refine ⟨_, rfl, ?_⟩
  replace hS := hS.no hF
  refine WL.nil ?_
  refine QN.thenW ?_
  refine WC.seq ?_
  refine WC.region ?_
  refine WL.pv (pv_move rfl) rfl ?_
  refine WL.call (args := [.tmp 18]) cf_39 rfl rfl (nextNil_c _) ?_
  rintro _ w ⟨rfl, hF⟩
  refine ⟨_, rfl, ?_⟩
  replace hS := hS.no hF
  refine WL.pv (pv_move rfl) rfl ?_
  refine WL.pv (pv_extL rfl rfl) rfl ?_
  refine WL.pv (pv_extL rfl rfl) rfl ?_
  refine WL.alloc hS zeroT_25 rfl ?_
  intro b6 w hb6 hS
  refine WL.storeAll (k := 0) (vs := bs8 (List.replicate 32 0)) hS (by rw [sizeT_25, bs8_len]; simp) rfl rfl rfl bs8_one (by rw [bs8_len]; simp) ?_
  intro w hS
  try simp only [List.set] at hS
  refine WL.pv (pv_assign rfl) rfl ?_
  refine WL.nil ?_
  refine QN.thenW ?_
  refine WC.seq ?_
  refine WC.region ?_
  refine WL.pv (pv_move rfl) rfl ?_
  refine WL.pv (pv_move rfl) rfl ?_
  refine WL.call (args := [.tmp 23, .tmp 24]) cf_40 rfl rfl (someNil_c n _) ?_
  rintro _ w ⟨rfl, hF⟩
  refine ⟨_, rfl, ?_⟩
  replace hS := hS.no hF
  refine WL.pv (pv_move rfl) rfl ?_
  refine WL.pv (pv_extL rfl rfl) rfl ?_
  refine WL.pv (pv_extL rfl rfl) rfl ?_
  refine WL.pv (pv_assign rfl) rfl ?_
  refine WL.pv (pv_assign rfl) rfl ?_
  refine WL.nil ?_
  refine QN.thenW ?_
  refine WC.seq ?_
  refine WC.region ?_
  refine WL.pv (pv_move rfl) rfl ?_
  refine WL.call (args := [.tmp 29]) cf_42 rfl rfl (idNil_c _) ?_
  rintro _ w ⟨rfl, hF⟩
  refine ⟨_, rfl, ?_⟩
  replace hS := hS.no hF
  refine WL.pv (pv_move rfl) rfl ?_
  refine WL.pv (pv_extL rfl rfl) rfl ?_
  refine WL.pv (pv_extL rfl rfl) rfl ?_
  refine WL.alloc hS zeroT_59 rfl ?_
  intro b10 w hb10 hS
  refine WL.storeAll (k := 0) (vs := bs8 (List.replicate 16 0)) hS (by rw [sizeT_59, bs8_len]; simp) rfl rfl rfl bs8_one (by rw [bs8_len]; simp) ?_
  intro w hS
  try simp only [List.set] at hS
  refine WL.pv (pv_assign rfl) rfl ?_
  refine WL.nil ?_
  refine QN.thenW ?_
  refine WC.seq ?_
  refine WC.region ?_
  refine WL.pv (pv_move rfl) rfl ?_
  refine WL.pv (pv_eql rfl rfl) rfl ?_
  refine WL.pv (pv_move rfl) rfl ?_
  refine WL.guardT rfl rfl rfl (lkT rfl (by rfl)) ?_
  refine WL.pv (pv_move rfl) rfl ?_
  refine WL.guardT rfl rfl rfl (lkT rfl (by rfl)) ?_
  refine WL.pv (pv_eql rfl rfl) rfl ?_
  refine WL.pv (pv_pick1 (lkT rfl (by rfl)) rfl) rfl ?_
  refine WL.pv (pv_move rfl) rfl ?_
  refine WL.guardT rfl rfl rfl (lkT rfl (by rfl)) ?_
  refine WL.pv (pv_move rfl) rfl ?_
  refine WL.guardT rfl rfl rfl (lkT rfl (by rfl)) ?_
  refine WL.pv (pv_eql rfl rfl) rfl ?_
  refine WL.pv (pv_pick1 (lkT rfl (by rfl)) rfl) rfl ?_
  refine WL.pv (pv_move rfl) rfl ?_
  refine WL.guardT rfl rfl rfl (lkT rfl (by rfl)) ?_
  refine WL.pv (pv_move rfl) rfl ?_
  refine WL.guardT rfl rfl rfl (lkT rfl (by rfl)) ?_
  refine WL.call (args := [.tmp 44]) cf_45 rfl rfl (leftNil_c _) ?_
  rintro _ w ⟨rfl, hF⟩
  refine ⟨_, rfl, ?_⟩
  replace hS := hS.no hF
  refine WL.guardT rfl rfl rfl (lkT rfl (by rfl)) ?_
  refine WL.pv (pv_eql rfl rfl) rfl ?_
  refine WL.pv (pv_pick1 (lkT rfl (by rfl)) rfl) rfl ?_
  refine WL.pv (pv_assign rfl) rfl ?_
  refine WL.nil ?_
  refine QN.thenW ?_
  refine WC.ret ?_
  refine QN.ret1 rfl rfl ?_
  exact ⟨rfl, hS.fr⟩

end Go.Proofs.Ytjcebkhhgdgohaa
namespace Go.Proofs.Ytjcebkhhgdgohaa
open Go Go.RowKit Go.Eng
theorem aggT_50 : aggT Try.prog 50 = some 3 := by kernel_rfl
theorem cf_38 : callable Try.prog 38 = true := by kernel_rfl
theorem cf_41 : callable Try.prog 41 = true := by kernel_rfl
theorem cf_43 : callable Try.prog 43 = true := by kernel_rfl
theorem eqgT_59 : Try.prog.eqGuardType Try.prog.depth 59 = false := by kernel_rfl
theorem fldT_50_0 : fldT Try.prog 50 0 = some 0 := by kernel_rfl
theorem fldT_50_1 : fldT Try.prog 50 1 = some 1 := by kernel_rfl
theorem fldT_50_2 : fldT Try.prog 50 2 = some 2 := by kernel_rfl
theorem sizeT_50 : sizeT Try.prog 50 = some 3 := by kernel_rfl
theorem slS_46 : (slT Try.prog 46).isSome = true := by kernel_rfl
theorem slT_46 : slT Try.prog 46 = some (50, 3, 40) := by kernel_rfl
theorem zeroT_50 : zeroT Try.prog 50 = some ([.int .i64 0, .int .i64 0, .slice none 0 0]) := by kernel_rfl

theorem someE_1 (ks : List (List UInt8)) : (someV ks 1).2.2 = nextE ks := by
  by_cases h : 1 ≤ ks.length
  · rw [someV_1 h, nextE_y h]
  · rw [someV_0 h, nextE_n h]
theorem someR_1 (ks : List (List UInt8)) : (someV ks 1).2.1 = ks.drop 1 := by
  by_cases h : 1 ≤ ks.length
  · rw [someV_1 h]
  · rw [someV_0 h, nextK_n h]; rfl
theorem someK {ks : List (List UInt8)} (h : K32 ks) (n : Int) : K32 (someV ks n).1 ∧ K32 (someV ks n).2.1 ∧ (someV ks n).2.1.length ≤ ks.length := by
  unfold someV
  split
  · exact ⟨K32.nil, h, Nat.le_refl _⟩
  · split
    · exact ⟨K32.nil, h, Nat.le_refl _⟩
    · exact ⟨h.take _, h.drop _, by simp⟩
theorem rs_nilK {w : World} : Rs w (.slice none 0 0) 32 (kc []) := ⟨none, 0, 0, rfl, Nat.le_refl _, by simp [maxLen], by simp [kc], .inl rfl⟩
/-- Cut out of a slice: what is handed out, what is left. -/
theorem refSome_c (A : Option Addr) (m c : Nat) (ks : List (List UInt8)) (n : Int) (w0 : World) (hK : K32 ks) (hl : ks.length = m) (hmc : m ≤ c) :
    Calls Try.prog 38 #[.slice A m c, .int .i64 n] w0 fun e w => ∃ o r, e = .returned (.tuple #[o, r, .int .i64 (someV ks n).2.2]) ∧ Fr No w0 w ∧
      (∀ w', Rs w' (.slice A m c) 32 (kc ks) → Rs w' o 32 (kc (someV ks n).1) ∧ Rs w' r 32 (kc (someV ks n).2.1)) ∧ (∀ b, r.ownBlock = some b → (Value.slice A m c).ownBlock = some b) := by
  by_cases h1 : n < 0
  · refine (refSomeNeg_c A m c w0 n h1).mono fun e w h => ?_
    obtain ⟨rfl, hF⟩ := h
    rw [someV_neg h1]
    exact ⟨_, _, rfl, hF, fun w' hR => ⟨rs_nilK, hR⟩, fun b hb => hb⟩
  · by_cases h2 : (m : Int) < n
    · refine (refSomeBig_c A m c w0 n h1 h2).mono fun e w h => ?_
      obtain ⟨rfl, hF⟩ := h
      rw [someV_big h1 (by omega)]
      exact ⟨_, _, rfl, hF, fun w' hR => ⟨rs_nilK, hR⟩, fun b hb => hb⟩
    · obtain ⟨q, rfl⟩ : ∃ q : Nat, n = (q : Int) := ⟨n.toNat, by omega⟩
      refine (refSomeOk_c A m c w0 q (by omega) hmc).mono fun e w h => ?_
      obtain ⟨rfl, hF⟩ := h
      rw [someV_ok (by omega)]
      refine ⟨_, _, rfl, hF, fun w' hR => ⟨?_, ?_⟩, fun b hb => cut_own hb⟩
      · have := hR.cutK hK (a := 0) (b := q) (Nat.zero_le _) (by omega)
        have e1 : (if c = 0 then A else A.map (·.add (0 * 32))) = A := by
          split
          · rfl
          · cases A <;> simp [Addr.add]
        simpa [e1] using this
      · have := hR.cutK hK (a := q) (b := m) (by omega) (Nat.le_refl _)
        rwa [List.take_of_length_le (by simp; omega)] at this
/-- The acts that come in. -/
def ActsR (w : World) (v : Value) (N : Nat) : Prop := ∃ css : List (List Value), Rs w v 3 css.flatten ∧ css.length = N ∧ (∀ c ∈ css, c.length = 3) ∧
  ∀ c ∈ css, ∃ kd nn A m c' L, c = [.int .i64 kd, .int .i64 nn, .slice A m c'] ∧ Rs w (.slice A m c') 32 (kc L) ∧ K32 L ∧ -9223372036854775808 ≤ nn ∧ nn ≤ 9223372036854775807
theorem ST.keep {w0 w : World} {M : Nat → Prop} {fr es : List Ent} (h : Eng.ST w0 M w (fr ++ es)) : Eng.ST w0 M w es :=
  ⟨h.fr, fun e he => h.ok e (by simp [he]), fun e he => h.own e (by simp [he]), (List.pairwise_append.1 h.sep).2.1⟩
theorem fin_c {w0 w : World} {M : Nat → Prop} {bd : Nat} {v r u : Value} {fr : List Ent} {xs : List Value} {ks2 : List (List UInt8)} (h : Eng.ST w0 M w (fr ++ (.ro u 32 xs :: esD bd v ks2))) (hr : Rs w r 32 (kc ks2)) (hb : ∀ b, r.ownBlock = some b → u.ownBlock = some b) :
    Eng.ST w0 M w (.ro r 32 (kc ks2) :: esD bd v ks2) := (ST.keep h).reRo (k := 0) rfl hr hb


theorem next_at {ks : List (List UInt8)} (h : 1 ≤ ks.length) {h2 : 0 < (ks.take 1).length} : (ks.take 1)[0]'h2 = nextK ks := by
  cases ks with
  | nil => simp at h
  | cons k ks => simp [nextK]


theorem kcell0 {w : World} {bo oo mo co : Nat} {ks : List (List UInt8)} (hK : K32 ks) (hp : 1 ≤ ks.length) (h : Rs w (.slice (some ⟨bo, oo, none⟩) mo co) 32 (kc (ks.take 1))) {j : Nat} {u : Value} (hu : (bs8 (nextK ks))[j]? = some u) : w.cell? ⟨bo, oo + 0 * 32 + j, none⟩ = some u := by
  have hl : 0 < (ks.take 1).length := by rw [List.length_take]; omega
  obtain ⟨b, o, he, _, _, _, hc⟩ := h.at_ (by rw [(hK.take 1).len]; omega)
  injection he with he; injection he with e1 e2; subst e1; subst e2
  have := hc (0 * 32 + j) u (kc_at (hK.take 1) (i := 0) hl (by rw [next_at hp]; exact hu))
  rwa [← Nat.add_assoc] at this
theorem rv_load_blkB {P : Program} {l : Env} {w : World} {d b i : Nat} {t T ty : TypeId} {pos : String} {af : Array Edge} {x : Operand} {cs : List Value} {v : Value} (h : Bk w b t cs) (hT : oneT P T = true) (hx : ev l x = some (.pointer (some ⟨b, i, none⟩))) (hv : cs[i]? = some v) : RV P l w ⟨some d, .load T x, ty, pos, af, none⟩ v := rv_load hT hx (by rw [h.cell]; exact hv)

set_option maxHeartbeats 4000000 in
set_option maxRecDepth 100000 in
theorem drawsActs_c (A B : Option Addr) (m c m2 c2 : Nat) (l0 : List (List UInt8)) (w0 : World) (hl : Rs w0 (.slice A m c) 32 (kc l0)) (hK0 : K32 l0) (ha : ActsR w0 (.slice B m2 c2) m2) : Calls Try.prog 13 #[.slice A m c, .slice B m2 c2] w0 fun e w => e = .returned (.bool true) ∧ Fr No w0 w := by
  obtain ⟨css, hcs, hcl, hc3, hact⟩ := ha
  have hln := hl.lenK hK0
  have hmx : m ≤ 9223372036854775807 := by have := hln; simp only [maxLen] at this; omega
  have hmx2 : m2 ≤ 9223372036854775807 := by have := hcs.len; simp only [maxLen] at this; omega
  refine calls_of_WC (args := [.slice A m c, .slice B m2 c2]) Try.func13 rfl Try.ntmps13 rfl ?_
  show WC _ _ _ _ [(0, .slice A m c), (1, .slice B m2 c2)] _
  have hS := ST.start w0 No
  refine WC.seq ?_
  refine WC.region ?_
  refine WL.pv (pv_assign rfl) rfl ?_
  refine WL.nil ?_
  refine QN.thenW ?_
  refine WC.seq ?_
  refine WC.seq ?_
  refine WC.region ?_
  refine WL.call (args := []) cf_36 rfl rfl (wakesD_c _) ?_
  rintro _ w ⟨rfl, hF⟩
  refine ⟨_, rfl, ?_⟩
  replace hS := hS.no hF
  refine WL.pv (pv_not rfl) rfl ?_
  refine WL.nil ?_
  refine QN.thenW ?_
  refine WC.condF rfl rfl ?_
  refine WC.skip ?_
  refine QN.thenW ?_
  refine WC.seq ?_
  refine WC.seq ?_
  by_cases h100 : m ≤ 100
  · skip
    refine WC.region ?_
    refine WL.pv (pv_move rfl) rfl ?_
    refine WL.pv (pv_len slS_45 rfl) rfl ?_
    refine WL.pv (pv_gtr rfl rfl) rfl ?_
    refine WL.pv (pv_move rfl) rfl ?_
    refine WL.guardT rfl rfl rfl (lkF rfl (by omega)) ?_
    refine WL.pv (pv_move rfl) rfl ?_
    refine WL.guardT rfl rfl rfl (lkF rfl (by omega)) ?_
    refine WL.pv (pv_len slS_46 rfl) rfl ?_
    refine WL.guardT rfl rfl rfl (lkF rfl (by omega)) ?_
    refine WL.pv (pv_gtr rfl rfl) rfl ?_
    refine WL.pv (pv_pick0 (lkF rfl (by omega)) rfl) rfl ?_
    refine WL.nil ?_
    refine QN.thenW ?_
    refine WC.condD rfl (fun hc28 => ?_) (fun hc28 => ?_)
    · skip
      refine WC.seq ?_
      refine WC.region ?_
      refine WL.pv (pv_assign rfl) rfl ?_
      refine WL.nil ?_
      refine QN.thenW ?_
      refine WC.ret ?_
      refine QN.thenR ?_
      refine QN.ret1 rfl rfl ?_
      exact ⟨rfl, hS.fr⟩
    · skip
      refine WC.skip ?_
      refine QN.thenW ?_
      refine WC.seq ?_
      refine WC.region ?_
      refine WL.build0 hS slT_45 rfl ?_
      intro r29 w hr29 hS
      refine WL.pv (pv_move rfl) rfl ?_
      refine WL.append (k := 0) (N := 65536) hS slT_45 zlenT_25 (by decide) rfl rfl rfl (hl.no hS.fr) kc_one (by rw [hK0.len]; simp; omega) (by omega) (by simp [maxLen]) rfl ?_
      intro v31 w hFr31 hS
      try simp only [List.set] at hS
      rw [List.nil_append] at hS
      obtain ⟨A3, m3, c3, rfl, _, _, _⟩ := (hS.rw_ (k := 0) rfl).anyForm
      refine WL.call (args := [.tmp 31]) cf_37 rfl rfl (newD_c _ _ _ l0 _ (hS.rw_ (k := 0) rfl).rs hK0 (by omega)) ?_
      rintro _ w ⟨bd, v0, rfl, hS2⟩
      refine ⟨_, rfl, ?_⟩
      replace hS := (hS.join hS2).erase 2
      simp only [esD, List.cons_append, List.nil_append, List.eraseIdx_cons_succ, List.eraseIdx_zero, List.tail_cons] at hS
      refine WL.pv (pv_assign rfl) rfl ?_
      refine WL.nil ?_
      refine QN.thenW ?_
      refine WC.seq ?_
      refine WC.region ?_
      refine WL.build0 hS slT_45 rfl ?_
      intro r33 w hr33 hS
      refine WL.pv (pv_move rfl) rfl ?_
      refine WL.append (k := 0) (N := 65536) hS slT_45 zlenT_25 (by decide) rfl rfl rfl (hl.no hS.fr) kc_one (by rw [hK0.len]; simp; omega) (by omega) (by simp [maxLen]) rfl ?_
      intro v35 w hFr35 hS
      try simp only [List.set] at hS
      rw [List.nil_append] at hS
      replace hS := hS.toRo (k := 0) rfl
      simp only [List.set] at hS
      refine WL.pv (pv_assign rfl) rfl ?_
      refine WL.nil ?_
      refine QN.thenW ?_
      refine WC.seq ?_
      refine WC.seq ?_
      refine WC.region ?_
      refine WL.pv (pv_move rfl) rfl ?_
      refine WL.pv (pv_len slS_46 rfl) rfl ?_
      refine WL.pv (pv_move rfl) rfl ?_
      refine WL.nil ?_
      refine QN.thenW ?_
      refine WC.block ?_
      refine WC.loop (α := Nat × List (List UInt8) × Value × Value) (fun s => [(0, .slice A m c), (1, .slice B m2 c2), (5, .pointer (some ⟨bd, 0, none⟩)), (6, s.2.2.2), (36, .slice B m2 c2), (37, .int .i64 (m2 : Int)), (38, .int .i64 (s.1 : Int))]) (fun s w => s.1 ≤ m2 ∧ K32 s.2.1 ∧ s.2.1.length ≤ 100 + 30 * s.1 ∧ ST w0 No w [.ro s.2.2.2 32 (kc s.2.1), .blk bd 108 [s.2.2.1], .ro s.2.2.1 32 (kc s.2.1)]) (fun s => m2 - s.1) ((0, l0, v0, v35)) (Sub.cons rfl (Sub.cons rfl (Sub.cons rfl (Sub.cons rfl (Sub.cons rfl (Sub.cons rfl (Sub.cons rfl Sub.nil))))))) ⟨by show 0 ≤ m2; omega, hK0, by show l0.length ≤ 100 + 30 * 0; omega, hS⟩ ?_
      rintro ⟨i, ks, v, v6⟩ w N hN hR
      change N = m2 - i at hN
      change i ≤ m2 ∧ K32 ks ∧ ks.length ≤ 100 + 30 * i ∧ ST w0 No w [.ro v6 32 (kc ks), .blk bd 108 [v], .ro v 32 (kc ks)] at hR
      show WC _ _ _ _ [(0, .slice A m c), (1, .slice B m2 c2), (5, .pointer (some ⟨bd, 0, none⟩)), (6, v6), (36, .slice B m2 c2), (37, .int .i64 (m2 : Int)), (38, .int .i64 (i : Int))] _
      obtain ⟨hi, hK, hL, hS⟩ := hR
      obtain ⟨A6, m6, c6, rfl, _, _, _, _⟩ := id (hS.ro_ (k := 0) rfl)
      have hl6 := (hS.ro_ (k := 0) rfl).lenK hK
      refine WC.seq ?_
      refine WC.region ?_
      refine WL.pv (pv_lss rfl rfl) rfl ?_
      refine WL.nil ?_
      refine QN.thenW ?_
      refine WC.seq ?_
      refine WC.condD rfl (fun hc39 => ?_) (fun hc39 => ?_)
      · skip
        have him : i < m2 := by omega
        obtain ⟨ba, oa, rfl, _, _, _, hca⟩ := hcs.at_ (by rw [flat_len _ hc3]; omega)
        obtain ⟨kd, nn, As, ms, cs, L, hce, hsl, hKl, hn1, hn2⟩ := hact (css[i]'(by omega)) (List.getElem_mem _)
        have hsln := hsl.lenK hKl
        have hcell : ∀ j u, ([.int .i64 kd, .int .i64 nn, .slice As ms cs] : List Value)[j]? = some u → w0.cell? ⟨ba, oa + i * 3 + j, none⟩ = some u := fun j u hu => by
          have hj := getElem?_lt hu
          simp only [List.length_cons, List.length_nil] at hj
          rw [Nat.add_assoc]
          exact hca _ _ (by rw [flat_at2 hc3 (by omega) (by omega), hce]; exact hu)
        refine WC.skip ?_
        refine QN.thenW ?_
        refine WC.seq ?_
        refine WC.block ?_
        refine WC.seq ?_
        refine WC.region ?_
        refine WL.pv (pv_indexAddrS (j := i) slT_46 rfl rfl (by omega) (by omega)) rfl ?_
        refine WL.rv (rv_loadA (by rw [aggT_50]; rfl) rfl (fun j u hu => hS.fr.cellS (hcell j u hu) (fun h => h))) rfl ?_
        refine WL.alloc hS zeroT_50 rfl ?_
        intro b8 w hb8 hS
        refine WL.storeAll (k := 0) (vs := [.int .i64 kd, .int .i64 nn, .slice As ms cs]) hS (by rw [sizeT_50]; rfl) rfl rfl rfl (by simp [Value.oneCell']) (by rfl) ?_
        intro w hS
        try simp only [List.set] at hS
        refine WL.nil ?_
        refine QN.thenW ?_
        refine WC.seq ?_
        refine WC.seq ?_
        refine WC.region ?_
        refine WL.pv (pv_fieldAddrZ fldT_50_2 rfl) rfl ?_
        refine WL.rv (rv_load_blk (k := 0) hS oneT_45 rfl rfl rfl) rfl ?_
        refine WL.pv (pv_len slS_45 rfl) rfl ?_
        refine WL.pv (pv_gtr rfl rfl) rfl ?_
        refine WL.nil ?_
        refine QN.thenW ?_
        refine WC.condD rfl (fun hc45 => ?_) (fun hc45 => ?_)
        · skip
          refine WC.seq ?_
          refine WC.region ?_
          refine WL.pv (pv_assign rfl) rfl ?_
          refine WL.nil ?_
          refine QN.thenW ?_
          refine WC.ret ?_
          refine QN.thenR ?_
          refine QN.blockR ?_
          refine QN.thenR ?_
          refine QN.thenR ?_
          refine QN.blockR ?_
          refine QN.thenR ?_
          refine QN.ret1 rfl rfl ?_
          exact ⟨rfl, hS.fr⟩
        · skip
          refine WC.skip ?_
          refine QN.thenW ?_
          refine WC.seq ?_
          refine WC.region ?_
          refine WL.pv (pv_assign rfl) rfl ?_
          refine WL.nil ?_
          refine QN.thenW ?_
          refine WC.cut (α := Int) (fun want => [(0, .slice A m c), (1, .slice (some ⟨ba, oa, none⟩) m2 c2), (5, .pointer (some ⟨bd, 0, none⟩)), (6, .slice A6 m6 c6), (8, .pointer (some ⟨b8, 0, none⟩)), (9, .int .i64 want), (36, .slice (some ⟨ba, oa, none⟩) m2 c2), (37, .int .i64 (m2 : Int)), (38, .int .i64 (i : Int))]) (fun want w => (kd = 1 → want = nn) ∧ (kd ≠ 1 → want = 1) ∧ ST w0 No w [.blk b8 50 [.int .i64 kd, .int .i64 nn, .slice As ms cs], .ro (.slice A6 m6 c6) 32 (kc ks), .blk bd 108 [v], .ro v 32 (kc ks)]) ?_ ?_
          · skip
            refine WC.seq ?_
            refine WC.region ?_
            refine WL.pv (pv_fieldAddrZ fldT_50_0 rfl) rfl ?_
            refine WL.rv (rv_load_blk (k := 0) hS oneT_3 rfl rfl rfl) rfl ?_
            refine WL.pv (pv_eql rfl rfl) rfl ?_
            refine WL.nil ?_
            refine QN.thenW ?_
            refine WC.condD rfl (fun hc48 => ?_) (fun hc48 => ?_)
            · skip
              refine WC.region ?_
              refine WL.pv (pv_fieldAddrZ fldT_50_1 rfl) rfl ?_
              refine WL.rv (rv_load_blk (k := 0) hS oneT_3 rfl rfl rfl) rfl ?_
              refine WL.pv (pv_assign rfl) rfl ?_
              refine WL.nil ?_
              refine QN.midE ?_
              exact ⟨(_), (Sub.cons rfl (Sub.cons rfl (Sub.cons rfl (Sub.cons rfl (Sub.cons rfl (Sub.cons rfl (Sub.cons rfl (Sub.cons rfl (Sub.cons rfl Sub.nil))))))))), ⟨by intro h; first | rfl | exact absurd h (by omega), by intro h; first | rfl | exact absurd h (by omega), hS⟩⟩
            · skip
              refine WC.skip ?_
              refine QN.midE ?_
              exact ⟨(_), (Sub.cons rfl (Sub.cons rfl (Sub.cons rfl (Sub.cons rfl (Sub.cons rfl (Sub.cons rfl (Sub.cons rfl (Sub.cons rfl (Sub.cons rfl Sub.nil))))))))), ⟨by intro h; first | rfl | exact absurd h (by omega), by intro h; first | rfl | exact absurd h (by omega), hS⟩⟩
          · rintro want w hR
            obtain ⟨hW1, hW2, hS⟩ := hR
            refine WC.seq ?_
            refine WC.region ?_
            refine WL.pv (pv_move rfl) rfl ?_
            refine WL.pv (pv_move rfl) rfl ?_
            refine WL.call (args := [.tmp 52, .tmp 53]) cf_38 rfl rfl (refSome_c A6 m6 c6 ks want _ hK hl6.1 hl6.2.1) ?_
            rintro _ w ⟨o, r, rfl, hF, hview, hown⟩
            refine ⟨_, rfl, ?_⟩
            replace hS := hS.no hF
            have hsk := someK hK want
            obtain ⟨Ao, mo, co, rfl, _, _, _, _⟩ := id (hview _ (hS.ro_ (k := 1) rfl)).1
            refine WL.pv (pv_move rfl) rfl ?_
            refine WL.pv (pv_extL rfl rfl) rfl ?_
            refine WL.pv (pv_extL rfl rfl) rfl ?_
            refine WL.pv (pv_extL rfl rfl) rfl ?_
            refine WL.pv (pv_assign rfl) rfl ?_
            refine WL.pv (pv_assign rfl) rfl ?_
            refine WL.pv (pv_assign rfl) rfl ?_
            refine WL.nil ?_
            refine QN.thenW ?_
            refine WC.cut (α := List (List UInt8) × Value × Value) (fun s => [(0, .slice A m c), (1, .slice (some ⟨ba, oa, none⟩) m2 c2), (5, .pointer (some ⟨bd, 0, none⟩)), (11, s.2.2), (36, .slice (some ⟨ba, oa, none⟩) m2 c2), (37, .int .i64 (m2 : Int)), (38, .int .i64 (i : Int))]) (fun s w => K32 s.1 ∧ s.1.length ≤ 130 + 30 * i ∧ ST w0 No w [.ro s.2.2 32 (kc s.1), .blk bd 108 [s.2.1], .ro s.2.1 32 (kc s.1)]) ?_ ?_
            · skip
              refine WC.seq ?_
              refine WC.region ?_
              refine WL.pv (pv_fieldAddrZ fldT_50_0 rfl) rfl ?_
              refine WL.rv (rv_load_blk (k := 0) hS oneT_3 rfl rfl rfl) rfl ?_
              refine WL.nil ?_
              refine QN.thenW ?_
              refine WC.block ?_
              refine WC.seq ?_
              refine WC.region ?_
              refine WL.pv (pv_eql rfl rfl) rfl ?_
              refine WL.pv (pv_assign rfl) rfl ?_
              refine WL.nil ?_
              refine QN.thenW ?_
              refine WC.condD rfl (fun hc61 => ?_) (fun hc61 => ?_)
              · skip
                obtain rfl : want = 1 := hW2 (by omega)
                refine WC.seq ?_
                refine WC.region ?_
                refine WL.pv (pv_move rfl) rfl ?_
                refine WL.call (args := [.tmp 64]) cf_39 rfl rfl (next_c bd v ks _ (ST.part (fr := [.blk b8 50 [.int .i64 kd, .int .i64 nn, .slice As ms cs], .ro (.slice A6 m6 c6) 32 (kc ks)]) (es := esD bd v ks) hS) hK (by omega)) ?_
                rintro _ w ⟨v2, rfl, hS2⟩
                refine ⟨_, rfl, ?_⟩
                replace hS := ST.call (fr := [.blk b8 50 [.int .i64 kd, .int .i64 nn, .slice As ms cs], .ro (.slice A6 m6 c6) 32 (kc ks)]) (es := esD bd v ks) hS hS2
                simp only [List.cons_append, List.nil_append, esD] at hS
                have hk0 := someR_1 ks
                have he0 := someE_1 ks
                refine WL.pv (pv_move rfl) rfl ?_
                refine WL.pv (pv_extL rfl rfl) rfl ?_
                refine WL.pv (pv_extL rfl rfl) rfl ?_
                refine WL.alloc hS zeroT_25 rfl ?_
                intro b13 w hb13 hS
                refine WL.storeAll (k := 0) (vs := bs8 (nextK ks)) hS (by rw [sizeT_25, bs8_len, nextK_len hK]) rfl rfl rfl bs8_one (by rw [bs8_len, nextK_len hK]; simp) ?_
                intro w hS
                try simp only [List.set] at hS
                refine WL.pv (pv_assign rfl) rfl ?_
                refine WL.nil ?_
                refine QN.thenW ?_
                refine WC.seq ?_
                by_cases hpos : 1 ≤ ks.length
                · skip
                  have hvo := (hview _ (hS.ro_ (k := 2) rfl)).1
                  rw [someV_1 hpos] at hvo
                  obtain ⟨bo, oo, rfl, _, _, _, _⟩ := hvo.at_ (by rw [(hK.take 1).len, List.length_take]; omega)
                  have hvm := hvo.lenK (hK.take 1)
                  rw [List.length_take] at hvm
                  refine WC.still mixedO (by kernel_rfl) ?_
                  have hS := hS.no (Fr.drew _)
                  refine WS.pv (pv_move rfl) rfl ?_
                  refine WS.pv (pv_move rfl) rfl ?_
                  refine WS.pv (pv_neq rfl rfl) rfl ?_
                  refine WS.pv (pv_move rfl) rfl ?_
                  refine WS.guardT rfl rfl rfl (lkF rfl (by rw [he0]; simp)) ?_
                  refine WS.pv (pv_move rfl) rfl ?_
                  refine WS.guardT rfl rfl rfl (lkF rfl (by rw [he0]; simp)) ?_
                  refine WS.pv (pv_eql rfl rfl) rfl ?_
                  refine WS.guardT rfl rfl rfl (lkF rfl (by rw [he0]; simp)) ?_
                  refine WS.pv (pv_move rfl) rfl ?_
                  refine WS.guardT rfl rfl rfl (lkT rfl (by rw [he0, nextE_y hpos])) ?_
                  refine WS.rv (rv_load_all (k := 0) hS rfl rfl (by rw [aggT_25, bs8_len, nextK_len hK])) rfl ?_
                  refine WS.guardT rfl rfl rfl (lkT rfl (by rw [he0, nextE_y hpos])) ?_
                  refine WS.pv (pv_move rfl) rfl ?_
                  refine WS.guardT rfl rfl rfl (lkT rfl (by rw [he0, nextE_y hpos])) ?_
                  refine WS.pv (pv_indexAddrS (j := 0) slT_45 rfl rfl rfl (by omega)) rfl ?_
                  refine WS.guardT rfl rfl rfl (lkT rfl (by rw [he0, nextE_y hpos])) ?_
                  refine WS.rv (rv_loadA (by rw [aggT_25, bs8_len, nextK_len hK]) rfl (fun j u hu => kcell0 hK hpos (hvo.no (Fr.drew _)) hu)) rfl ?_
                  refine WS.guardT rfl rfl rfl (lkT rfl (by rw [he0, nextE_y hpos])) ?_
                  refine WS.pv (pv_neqA8 Try.underlying25 Try.underlying5 cellsT_5 eqgT_25 rfl rfl (nextK_len hK) (nextK_len hK)) rfl ?_
                  refine WS.guardT rfl rfl rfl (lkF rfl (by rw [he0]; simp)) ?_
                  refine WS.pv (pv_pick1 (lkT rfl (by rw [he0, nextE_y hpos])) rfl) rfl ?_
                  refine WS.pv (pv_pick0 (lkF rfl (by rw [he0]; simp)) rfl) rfl ?_
                  refine WS.pv (pv_move rfl) rfl ?_
                  refine WS.guardT rfl rfl rfl (lkB rfl (by simp)) ?_
                  refine WS.pv (pv_move rfl) rfl ?_
                  refine WS.guardT rfl rfl rfl (lkB rfl (by simp)) ?_
                  refine WS.pv (pv_neq rfl rfl) rfl ?_
                  refine WS.guardT rfl rfl rfl (lkB rfl (by simp)) ?_
                  refine WS.pv (pv_move rfl) rfl ?_
                  refine WS.guardF rfl rfl rfl (lkF rfl (by rw [he0, nextE_y hpos]; simp)) rfl rfl ?_
                  refine WS.guardF rfl rfl rfl (lkF rfl (by rw [he0, nextE_y hpos]; simp)) rfl rfl ?_
                  refine WS.guardF rfl rfl rfl (lkF rfl (by rw [he0, nextE_y hpos]; simp)) rfl rfl ?_
                  refine WS.guardT rfl rfl rfl (lkB rfl (by simp)) ?_
                  refine WS.pv (pv_pick0 (lkF rfl (by rw [he0, nextE_y hpos]; simp)) rfl) rfl ?_
                  refine WS.pv (pv_pick0 (lkB rfl (by simp)) rfl) rfl ?_
                  refine WS.done ?_
                  refine QN.thenW ?_
                  refine WC.condF rfl rfl ?_
                  refine WC.skip ?_
                  refine QN.blockN ?_
                  first
                  | (have hend : K32 (ks.drop 1) ∧ (ks.drop 1).length ≤ 130 + 30 * i ∧ _ := ⟨hK.drop 1, (by simp; omega), fin_c (fr := [_, _]) (ks2 := ks.drop 1) hS (by rw [← hk0]; exact (hview _ (hS.ro_ (k := 2) rfl)).2) hown⟩)
                  | (have hend : K32 ((someV ks nn).2.1) ∧ ((someV ks nn).2.1).length ≤ 130 + 30 * i ∧ _ := ⟨hsk.2.1, (by have := hk1; omega), fin_c (fr := [_]) (ks2 := (someV ks nn).2.1) (by have := hS.erase 2; exact this) (hview _ (hS.ro_ (k := 1) rfl)).2 hown⟩)
                  | (have hend : K32 (ks ++ L) ∧ (ks ++ L).length ≤ 130 + 30 * i ∧ _ := ⟨hK.app hKl, (by simp; have := hk3; omega), (((hS.toRo (k := 0) rfl).erase 1).erase 1 : ST _ _ _ [_, _, _])⟩)
                  | (have hend : K32 (ks) ∧ (ks).length ≤ 130 + 30 * i ∧ _ := ⟨hK, (by omega), (hS.erase 0 : ST _ _ _ [_, _, _])⟩)
                  refine QN.midE ?_
                  exact ⟨((_, _, _)), (Sub.cons rfl (Sub.cons rfl (Sub.cons rfl (Sub.cons rfl (Sub.cons rfl (Sub.cons rfl (Sub.cons rfl Sub.nil))))))), hend⟩
                · skip
                  refine WC.still mixedO (by kernel_rfl) ?_
                  have hS := hS.no (Fr.drew _)
                  refine WS.pv (pv_move rfl) rfl ?_
                  refine WS.pv (pv_move rfl) rfl ?_
                  refine WS.pv (pv_neq rfl rfl) rfl ?_
                  refine WS.pv (pv_move rfl) rfl ?_
                  refine WS.guardT rfl rfl rfl (lkF rfl (by rw [he0]; simp)) ?_
                  refine WS.pv (pv_move rfl) rfl ?_
                  refine WS.guardT rfl rfl rfl (lkF rfl (by rw [he0]; simp)) ?_
                  refine WS.pv (pv_eql rfl rfl) rfl ?_
                  refine WS.guardT rfl rfl rfl (lkF rfl (by rw [he0]; simp)) ?_
                  refine WS.pv (pv_move rfl) rfl ?_
                  refine WS.guardF rfl rfl rfl (lkF rfl (by rw [he0, nextE_n hpos]; simp)) rfl rfl ?_
                  refine WS.guardF rfl rfl rfl (lkF rfl (by rw [he0, nextE_n hpos]; simp)) rfl rfl ?_
                  refine WS.guardF rfl rfl rfl (lkF rfl (by rw [he0, nextE_n hpos]; simp)) rfl rfl ?_
                  refine WS.guardF rfl rfl rfl (lkF rfl (by rw [he0, nextE_n hpos]; simp)) rfl rfl ?_
                  refine WS.guardF rfl rfl rfl (lkF rfl (by rw [he0, nextE_n hpos]; simp)) rfl rfl ?_
                  refine WS.guardT rfl rfl rfl (lkF rfl (by rw [he0]; simp)) ?_
                  refine WS.pv (pv_pick0 (lkF rfl (by rw [he0, nextE_n hpos]; simp)) rfl) rfl ?_
                  refine WS.pv (pv_pick0 (lkF rfl (by rw [he0]; simp)) rfl) rfl ?_
                  refine WS.pv (pv_move rfl) rfl ?_
                  refine WS.guardT rfl rfl rfl (lkB rfl rfl) ?_
                  refine WS.pv (pv_move rfl) rfl ?_
                  refine WS.guardT rfl rfl rfl (lkB rfl rfl) ?_
                  refine WS.pv (pv_neq rfl rfl) rfl ?_
                  refine WS.guardT rfl rfl rfl (lkB rfl rfl) ?_
                  refine WS.pv (pv_move rfl) rfl ?_
                  refine WS.guardT rfl rfl rfl (lkT rfl (by rw [he0, nextE_n hpos]; simp)) ?_
                  refine WS.rv (rv_load_all (k := 0) hS rfl rfl (by rw [aggT_25, bs8_len, nextK_len hK])) rfl ?_
                  refine WS.guardT rfl rfl rfl (lkT rfl (by rw [he0, nextE_n hpos]; simp)) ?_
                  refine WS.pv (pv_buildA (parts := []) (cells := bs8 (List.replicate 32 0)) arrT_25 zeroT_25 rfl rfl) rfl ?_
                  refine WS.guardT rfl rfl rfl (lkT rfl (by rw [he0, nextE_n hpos]; simp)) ?_
                  refine WS.pv (pv_neqA8 Try.underlying25 Try.underlying5 cellsT_5 eqgT_25 rfl rfl (nextK_len hK) (by simp)) rfl ?_
                  refine WS.guardT rfl rfl rfl (lkB rfl rfl) ?_
                  refine WS.pv (pv_pick1 (lkT rfl (by rw [he0, nextE_n hpos]; simp)) rfl) rfl ?_
                  refine WS.pv (pv_pick0 (lkB rfl rfl) rfl) rfl ?_
                  refine WS.done ?_
                  refine QN.thenW ?_
                  refine WC.condF rfl (by rw [nextK_n hpos]; simp [nextK]) ?_
                  refine WC.skip ?_
                  refine QN.blockN ?_
                  first
                  | (have hend : K32 (ks.drop 1) ∧ (ks.drop 1).length ≤ 130 + 30 * i ∧ _ := ⟨hK.drop 1, (by simp; omega), fin_c (fr := [_, _]) (ks2 := ks.drop 1) hS (by rw [← hk0]; exact (hview _ (hS.ro_ (k := 2) rfl)).2) hown⟩)
                  | (have hend : K32 ((someV ks nn).2.1) ∧ ((someV ks nn).2.1).length ≤ 130 + 30 * i ∧ _ := ⟨hsk.2.1, (by have := hk1; omega), fin_c (fr := [_]) (ks2 := (someV ks nn).2.1) (by have := hS.erase 2; exact this) (hview _ (hS.ro_ (k := 1) rfl)).2 hown⟩)
                  | (have hend : K32 (ks ++ L) ∧ (ks ++ L).length ≤ 130 + 30 * i ∧ _ := ⟨hK.app hKl, (by simp; have := hk3; omega), (((hS.toRo (k := 0) rfl).erase 1).erase 1 : ST _ _ _ [_, _, _])⟩)
                  | (have hend : K32 (ks) ∧ (ks).length ≤ 130 + 30 * i ∧ _ := ⟨hK, (by omega), (hS.erase 0 : ST _ _ _ [_, _, _])⟩)
                  refine QN.midE ?_
                  exact ⟨((_, _, _)), (Sub.cons rfl (Sub.cons rfl (Sub.cons rfl (Sub.cons rfl (Sub.cons rfl (Sub.cons rfl (Sub.cons rfl Sub.nil))))))), hend⟩
              · skip
                refine WC.seq ?_
                refine WC.region ?_
                refine WL.pv (pv_eql rfl rfl) rfl ?_
                refine WL.pv (pv_assign rfl) rfl ?_
                refine WL.nil ?_
                refine QN.thenW ?_
                refine WC.condD rfl (fun hc91 => ?_) (fun hc91 => ?_)
                · skip
                  obtain rfl : nn = want := (hW1 (by omega)).symm
                  refine WC.seq ?_
                  refine WC.region ?_
                  refine WL.pv (pv_move rfl) rfl ?_
                  refine WL.pv (pv_fieldAddrZ fldT_50_1 rfl) rfl ?_
                  refine WL.rv (rv_load_blk (k := 0) hS oneT_3 rfl rfl rfl) rfl ?_
                  refine WL.call (args := [.tmp 94, .tmp 96]) cf_40 rfl rfl (some_c bd v ks _ (ST.part (fr := [.blk b8 50 [.int .i64 kd, .int .i64 nn, .slice As ms cs], .ro (.slice A6 m6 c6) 32 (kc ks)]) (es := esD bd v ks) hS) hK nn (by omega) ⟨hn1, hn2⟩) ?_
                  rintro _ w ⟨r98, v2, rfl, hS2⟩
                  refine ⟨_, rfl, ?_⟩
                  replace hS := ST.call (fr := [.blk b8 50 [.int .i64 kd, .int .i64 nn, .slice As ms cs], .ro (.slice A6 m6 c6) 32 (kc ks)]) (es := esD bd v ks) hS hS2
                  simp only [List.cons_append, List.nil_append, esD] at hS
                  have hk1 := hsk.2.2
                  obtain ⟨A98, m98, c98, rfl, _, _, _⟩ := (hS.rw_ (k := 2) rfl).anyForm
                  refine WL.pv (pv_move rfl) rfl ?_
                  refine WL.pv (pv_extL rfl rfl) rfl ?_
                  refine WL.pv (pv_extL rfl rfl) rfl ?_
                  refine WL.pv (pv_assign rfl) rfl ?_
                  refine WL.pv (pv_assign rfl) rfl ?_
                  refine WL.nil ?_
                  refine QN.thenW ?_
                  refine WC.seq ?_
                  refine WC.region ?_
                  refine WL.pv (pv_move rfl) rfl ?_
                  refine WL.pv (pv_move rfl) rfl ?_
                  refine WL.pv (pv_neq rfl rfl) rfl ?_
                  refine WL.pv (pv_move rfl) rfl ?_
                  refine WL.guardT rfl rfl rfl (lkF rfl (by simp)) ?_
                  refine WL.pv (pv_move rfl) rfl ?_
                  refine WL.guardT rfl rfl rfl (lkF rfl (by simp)) ?_
                  refine WL.pv (pv_move rfl) rfl ?_
                  refine WL.guardT rfl rfl rfl (lkF rfl (by simp)) ?_
                  refine WL.call (args := [.tmp 104, .tmp 105]) cf_41 rfl rfl (same41_c _ _ _ _ _ _ _ _ _ (hS.rw_ (k := 2) rfl).rs (hview _ (hS.ro_ (k := 1) rfl)).1 hsk.1 hsk.1) ?_
                  rintro _ w ⟨rfl, hF⟩
                  refine ⟨_, rfl, ?_⟩
                  replace hS := hS.no hF
                  refine WL.guardT rfl rfl rfl (lkF rfl (by simp)) ?_
                  refine WL.pv (pv_not rfl) rfl ?_
                  refine WL.pv (pv_pick0 (lkF rfl (by simp)) rfl) rfl ?_
                  refine WL.nil ?_
                  refine QN.thenW ?_
                  refine WC.condF rfl (by simp) ?_
                  refine WC.skip ?_
                  refine QN.blockN ?_
                  first
                  | (have hend : K32 (ks.drop 1) ∧ (ks.drop 1).length ≤ 130 + 30 * i ∧ _ := ⟨hK.drop 1, (by simp; omega), fin_c (fr := [_, _]) (ks2 := ks.drop 1) hS (by rw [← hk0]; exact (hview _ (hS.ro_ (k := 2) rfl)).2) hown⟩)
                  | (have hend : K32 ((someV ks nn).2.1) ∧ ((someV ks nn).2.1).length ≤ 130 + 30 * i ∧ _ := ⟨hsk.2.1, (by have := hk1; omega), fin_c (fr := [_]) (ks2 := (someV ks nn).2.1) (by have := hS.erase 2; exact this) (hview _ (hS.ro_ (k := 1) rfl)).2 hown⟩)
                  | (have hend : K32 (ks ++ L) ∧ (ks ++ L).length ≤ 130 + 30 * i ∧ _ := ⟨hK.app hKl, (by simp; have := hk3; omega), (((hS.toRo (k := 0) rfl).erase 1).erase 1 : ST _ _ _ [_, _, _])⟩)
                  | (have hend : K32 (ks) ∧ (ks).length ≤ 130 + 30 * i ∧ _ := ⟨hK, (by omega), (hS.erase 0 : ST _ _ _ [_, _, _])⟩)
                  refine QN.midE ?_
                  exact ⟨((_, _, _)), (Sub.cons rfl (Sub.cons rfl (Sub.cons rfl (Sub.cons rfl (Sub.cons rfl (Sub.cons rfl (Sub.cons rfl Sub.nil))))))), hend⟩
                · skip
                  refine WC.seq ?_
                  refine WC.region ?_
                  refine WL.pv (pv_eql rfl rfl) rfl ?_
                  refine WL.pv (pv_assign rfl) rfl ?_
                  refine WL.nil ?_
                  refine QN.thenW ?_
                  refine WC.condD rfl (fun hc109 => ?_) (fun hc109 => ?_)
                  · skip
                    obtain rfl : want = 1 := hW2 (by omega)
                    refine WC.seq ?_
                    refine WC.region ?_
                    refine WL.pv (pv_move rfl) rfl ?_
                    refine WL.call (args := [.tmp 112]) cf_42 rfl rfl (id_c bd v ks _ (ST.part (fr := [.blk b8 50 [.int .i64 kd, .int .i64 nn, .slice As ms cs], .ro (.slice A6 m6 c6) 32 (kc ks)]) (es := esD bd v ks) hS) hK (by omega)) ?_
                    rintro _ w ⟨v2, rfl, hS2⟩
                    refine ⟨_, rfl, ?_⟩
                    replace hS := ST.call (fr := [.blk b8 50 [.int .i64 kd, .int .i64 nn, .slice As ms cs], .ro (.slice A6 m6 c6) 32 (kc ks)]) (es := esD bd v ks) hS hS2
                    simp only [List.cons_append, List.nil_append, esD] at hS
                    have hk0 := someR_1 ks
                    have he0 := someE_1 ks
                    refine WL.pv (pv_move rfl) rfl ?_
                    refine WL.pv (pv_extL rfl rfl) rfl ?_
                    refine WL.pv (pv_extL rfl rfl) rfl ?_
                    refine WL.alloc hS zeroT_59 rfl ?_
                    intro b17 w hb17 hS
                    refine WL.storeAll (k := 0) (vs := bs8 (idK ks)) hS (by rw [sizeT_59, bs8_len, idK_len]) rfl rfl rfl bs8_one (by rw [bs8_len, idK_len]; simp) ?_
                    intro w hS
                    try simp only [List.set] at hS
                    refine WL.pv (pv_assign rfl) rfl ?_
                    refine WL.nil ?_
                    refine QN.thenW ?_
                    refine WC.seq ?_
                    by_cases hpos : 1 ≤ ks.length
                    · skip
                      have hvo := (hview _ (hS.ro_ (k := 2) rfl)).1
                      rw [someV_1 hpos] at hvo
                      obtain ⟨bo, oo, rfl, _, _, _, _⟩ := hvo.at_ (by rw [(hK.take 1).len, List.length_take]; omega)
                      have hvm := hvo.lenK (hK.take 1)
                      rw [List.length_take] at hvm
                      refine WC.draw (S := fun w => Bk w b17 59 (bs8 (idK ks)) ∧ Rs w (.slice (some ⟨bo, oo, none⟩) mo co) 32 (kc (ks.take 1))) (fuel := 24) (listed := #[false, false, false, false, false, false, false, false, false, false, false, false, false, false, false, false, false, false, false, false, false, false, false, false]) mixedO rfl rfl ?_
                      have hS := hS.no (Fr.drew _)
                      refine WH.take (listed' := #[true, false, false, false, false, false, false, false, false, false, false, false, false, false, false, false, false, false, false, false, false, false, false, false]) 0 rfl (by kernel_rfl) (by kernel_rfl) (by kernel_rfl) (fun _ _ _ h => h) rfl (fun w _ => PV.rv (pv_move rfl) w) ⟨hS.bk (k := 0) rfl, by have h9 := (hview _ (hS.ro_ (k := 2) rfl)).1; rwa [someV_1 hpos] at h9⟩ rfl ?_
                      refine WH.take (listed' := #[true, true, false, false, false, false, false, false, false, false, false, false, false, false, false, false, false, false, false, false, false, false, false, false]) 1 rfl (by kernel_rfl) (by kernel_rfl) (by kernel_rfl) (fun _ _ _ h => h) rfl (fun w _ => PV.rv (pv_move rfl) w) ⟨hS.bk (k := 0) rfl, by have h9 := (hview _ (hS.ro_ (k := 2) rfl)).1; rwa [someV_1 hpos] at h9⟩ rfl ?_
                      refine WH.take (listed' := #[true, true, true, false, false, false, false, false, false, false, false, false, false, false, false, false, false, false, false, false, false, false, false, false]) 2 rfl (by kernel_rfl) (by kernel_rfl) (by kernel_rfl) (fun _ _ _ h => h) rfl (fun w _ => PV.rv (pv_neq rfl rfl) w) ⟨hS.bk (k := 0) rfl, by have h9 := (hview _ (hS.ro_ (k := 2) rfl)).1; rwa [someV_1 hpos] at h9⟩ rfl ?_
                      refine WH.take (listed' := #[true, true, true, true, false, false, false, false, false, false, false, false, false, false, false, false, false, false, false, false, false, false, false, false]) 3 rfl (by kernel_rfl) (by kernel_rfl) (by kernel_rfl) (fun _ _ _ h => h) rfl (fun w _ => PV.rv (pv_move rfl) w) ⟨hS.bk (k := 0) rfl, by have h9 := (hview _ (hS.ro_ (k := 2) rfl)).1; rwa [someV_1 hpos] at h9⟩ rfl ?_
                      refine WH.takeT (listed' := #[true, true, true, true, true, false, false, false, false, false, false, false, false, false, false, false, false, false, false, false, false, false, false, false]) 4 rfl rfl rfl (lkF rfl (by rw [he0]; simp)) (by kernel_rfl) (by kernel_rfl) (by kernel_rfl) (fun _ _ _ h => h) rfl (fun w _ => PV.rv (pv_move rfl) w) ⟨hS.bk (k := 0) rfl, by have h9 := (hview _ (hS.ro_ (k := 2) rfl)).1; rwa [someV_1 hpos] at h9⟩ rfl ?_
                      refine WH.takeT (listed' := #[true, true, true, true, true, true, false, false, false, false, false, false, false, false, false, false, false, false, false, false, false, false, false, false]) 5 rfl rfl rfl (lkF rfl (by rw [he0]; simp)) (by kernel_rfl) (by kernel_rfl) (by kernel_rfl) (fun _ _ _ h => h) rfl (fun w _ => PV.rv (pv_eql rfl rfl) w) ⟨hS.bk (k := 0) rfl, by have h9 := (hview _ (hS.ro_ (k := 2) rfl)).1; rwa [someV_1 hpos] at h9⟩ rfl ?_
                      refine WH.takeT (listed' := #[true, true, true, true, true, true, true, false, false, false, false, false, false, false, false, false, false, false, false, false, false, false, false, false]) 6 rfl rfl rfl (lkF rfl (by rw [he0]; simp)) (by kernel_rfl) (by kernel_rfl) (by kernel_rfl) (fun _ _ _ h => h) rfl (fun w _ => PV.rv (pv_move rfl) w) ⟨hS.bk (k := 0) rfl, by have h9 := (hview _ (hS.ro_ (k := 2) rfl)).1; rwa [someV_1 hpos] at h9⟩ rfl ?_
                      refine WH.takeT (listed' := #[true, true, true, true, true, true, true, true, false, false, false, false, false, false, false, false, false, false, false, false, false, false, false, false]) 7 rfl rfl rfl (lkT rfl (by rw [he0, nextE_y hpos])) (by kernel_rfl) (by kernel_rfl) (by kernel_rfl) (fun _ _ _ h => h) rfl (fun w hS => rv_loadA (by rw [aggT_59, bs8_len, idK_len]) rfl (fun j u hu => by rw [Nat.zero_add, Bk.cell hS.1]; exact hu)) ⟨hS.bk (k := 0) rfl, by have h9 := (hview _ (hS.ro_ (k := 2) rfl)).1; rwa [someV_1 hpos] at h9⟩ rfl ?_
                      refine WH.takeT (listed' := #[true, true, true, true, true, true, true, true, true, false, false, false, false, false, false, false, false, false, false, false, false, false, false, false]) 8 rfl rfl rfl (lkT rfl (by rw [he0, nextE_y hpos])) (by kernel_rfl) (by kernel_rfl) (by kernel_rfl) (fun _ _ _ h => h) rfl (fun w _ => PV.rv (pv_move rfl) w) ⟨hS.bk (k := 0) rfl, by have h9 := (hview _ (hS.ro_ (k := 2) rfl)).1; rwa [someV_1 hpos] at h9⟩ rfl ?_
                      refine WH.takeT (listed' := #[true, true, true, true, true, true, true, true, true, true, false, false, false, false, false, false, false, false, false, false, false, false, false, false]) 9 rfl rfl rfl (lkT rfl (by rw [he0, nextE_y hpos])) (by kernel_rfl) (by kernel_rfl) (by kernel_rfl) (fun _ _ _ h => h) rfl (fun w _ => PV.rv (pv_indexAddrS (j := 0) slT_45 rfl rfl rfl (by omega)) w) ⟨hS.bk (k := 0) rfl, by have h9 := (hview _ (hS.ro_ (k := 2) rfl)).1; rwa [someV_1 hpos] at h9⟩ rfl ?_
                      refine WH.takeT (listed' := #[true, true, true, true, true, true, true, true, true, true, true, false, false, false, false, false, false, false, false, false, false, false, false, false]) 10 rfl rfl rfl (lkT rfl (by rw [he0, nextE_y hpos])) (by kernel_rfl) (by kernel_rfl) (by kernel_rfl) (fun _ _ _ h => h) rfl (fun w hS => rv_loadA (by rw [aggT_25, bs8_len, nextK_len hK]) rfl (fun j u hu => kcell0 hK hpos hS.2 hu)) ⟨hS.bk (k := 0) rfl, by have h9 := (hview _ (hS.ro_ (k := 2) rfl)).1; rwa [someV_1 hpos] at h9⟩ rfl ?_
                      refine WH.one (listed' := #[true, true, true, true, true, true, true, true, true, true, true, true, false, false, false, false, false, false, false, false, false, false, false, false]) 11 rfl (by kernel_rfl) rfl ?_
                      refine WL.guardT rfl rfl rfl (lkT rfl (by rw [he0, nextE_y hpos])) ?_
                      refine WL.call (args := [.tmp 126]) cf_43 rfl rfl (refId_c (nextK ks) (nextK_len hK) _) ?_
                      rintro _ w ⟨rfl, hF⟩
                      refine ⟨_, rfl, ?_⟩
                      replace hS := hS.no hF
                      refine WL.nil ?_
                      refine QN.held ⟨hS.bk (k := 0) rfl, by have h9 := (hview _ (hS.ro_ (k := 2) rfl)).1; rwa [someV_1 hpos] at h9⟩ ?_
                      refine WH.takeT (listed' := #[true, true, true, true, true, true, true, true, true, true, true, true, true, false, false, false, false, false, false, false, false, false, false, false]) 12 rfl rfl rfl (lkT rfl (by rw [he0, nextE_y hpos])) (by kernel_rfl) (by kernel_rfl) (by kernel_rfl) (fun _ _ _ h => h) rfl (fun w _ => PV.rv (pv_neqA8 Try.underlying59 Try.underlying5 cellsT_5 eqgT_59 rfl rfl (idK_len _) (idV_len _)) w) ⟨hS.bk (k := 0) rfl, by have h9 := (hview _ (hS.ro_ (k := 2) rfl)).1; rwa [someV_1 hpos] at h9⟩ rfl ?_
                      refine WH.takeT (listed' := #[true, true, true, true, true, true, true, true, true, true, true, true, true, true, false, false, false, false, false, false, false, false, false, false]) 13 rfl rfl rfl (lkF rfl (by rw [he0]; simp)) (by kernel_rfl) (by kernel_rfl) (by kernel_rfl) (fun _ _ _ h => h) rfl (fun w _ => PV.rv (pv_pick1 (lkT rfl (by rw [he0, nextE_y hpos])) rfl) w) ⟨hS.bk (k := 0) rfl, by have h9 := (hview _ (hS.ro_ (k := 2) rfl)).1; rwa [someV_1 hpos] at h9⟩ rfl ?_
                      refine WH.take (listed' := #[true, true, true, true, true, true, true, true, true, true, true, true, true, true, true, false, false, false, false, false, false, false, false, false]) 14 rfl (by kernel_rfl) (by kernel_rfl) (by kernel_rfl) (fun _ _ _ h => h) rfl (fun w _ => PV.rv (pv_pick0 (lkF rfl (by rw [he0]; simp)) rfl) w) ⟨hS.bk (k := 0) rfl, by have h9 := (hview _ (hS.ro_ (k := 2) rfl)).1; rwa [someV_1 hpos] at h9⟩ rfl ?_
                      refine WH.take (listed' := #[true, true, true, true, true, true, true, true, true, true, true, true, true, true, true, true, false, false, false, false, false, false, false, false]) 15 rfl (by kernel_rfl) (by kernel_rfl) (by kernel_rfl) (fun _ _ _ h => h) rfl (fun w _ => PV.rv (pv_move rfl) w) ⟨hS.bk (k := 0) rfl, by have h9 := (hview _ (hS.ro_ (k := 2) rfl)).1; rwa [someV_1 hpos] at h9⟩ rfl ?_
                      refine WH.takeT (listed' := #[true, true, true, true, true, true, true, true, true, true, true, true, true, true, true, true, true, false, false, false, false, false, false, false]) 16 rfl rfl rfl (lkB rfl (by rw [idK_y hpos]; simp)) (by kernel_rfl) (by kernel_rfl) (by kernel_rfl) (fun _ _ _ h => h) rfl (fun w _ => PV.rv (pv_move rfl) w) ⟨hS.bk (k := 0) rfl, by have h9 := (hview _ (hS.ro_ (k := 2) rfl)).1; rwa [someV_1 hpos] at h9⟩ rfl ?_
                      refine WH.takeT (listed' := #[true, true, true, true, true, true, true, true, true, true, true, true, true, true, true, true, true, true, false, false, false, false, false, false]) 17 rfl rfl rfl (lkB rfl (by rw [idK_y hpos]; simp)) (by kernel_rfl) (by kernel_rfl) (by kernel_rfl) (fun _ _ _ h => h) rfl (fun w _ => PV.rv (pv_neq rfl rfl) w) ⟨hS.bk (k := 0) rfl, by have h9 := (hview _ (hS.ro_ (k := 2) rfl)).1; rwa [someV_1 hpos] at h9⟩ rfl ?_
                      refine WH.takeT (listed' := #[true, true, true, true, true, true, true, true, true, true, true, true, true, true, true, true, true, true, true, false, false, false, false, false]) 18 rfl rfl rfl (lkB rfl (by rw [idK_y hpos]; simp)) (by kernel_rfl) (by kernel_rfl) (by kernel_rfl) (fun _ _ _ h => h) rfl (fun w _ => PV.rv (pv_move rfl) w) ⟨hS.bk (k := 0) rfl, by have h9 := (hview _ (hS.ro_ (k := 2) rfl)).1; rwa [someV_1 hpos] at h9⟩ rfl ?_
                      refine WH.takeF (listed' := #[true, true, true, true, true, true, true, true, true, true, true, true, true, true, true, true, true, true, true, true, false, false, false, false]) 19 rfl rfl rfl (lkF rfl (by rw [he0, nextE_y hpos]; simp)) (by kernel_rfl) (by kernel_rfl) (by kernel_rfl) (fun _ _ _ h => h) rfl ⟨hS.bk (k := 0) rfl, by have h9 := (hview _ (hS.ro_ (k := 2) rfl)).1; rwa [someV_1 hpos] at h9⟩ rfl ?_
                      refine WH.takeF (listed' := #[true, true, true, true, true, true, true, true, true, true, true, true, true, true, true, true, true, true, true, true, true, false, false, false]) 20 rfl rfl rfl (lkF rfl (by rw [he0, nextE_y hpos]; simp)) (by kernel_rfl) (by kernel_rfl) (by kernel_rfl) (fun _ _ _ h => h) rfl ⟨hS.bk (k := 0) rfl, by have h9 := (hview _ (hS.ro_ (k := 2) rfl)).1; rwa [someV_1 hpos] at h9⟩ rfl ?_
                      refine WH.takeF (listed' := #[true, true, true, true, true, true, true, true, true, true, true, true, true, true, true, true, true, true, true, true, true, true, false, false]) 21 rfl rfl rfl (lkF rfl (by rw [he0, nextE_y hpos]; simp)) (by kernel_rfl) (by kernel_rfl) (by kernel_rfl) (fun _ _ _ h => h) rfl ⟨hS.bk (k := 0) rfl, by have h9 := (hview _ (hS.ro_ (k := 2) rfl)).1; rwa [someV_1 hpos] at h9⟩ rfl ?_
                      refine WH.takeT (listed' := #[true, true, true, true, true, true, true, true, true, true, true, true, true, true, true, true, true, true, true, true, true, true, true, false]) 22 rfl rfl rfl (lkB rfl (by rw [idK_y hpos]; simp)) (by kernel_rfl) (by kernel_rfl) (by kernel_rfl) (fun _ _ _ h => h) rfl (fun w _ => PV.rv (pv_pick0 (lkF rfl (by rw [he0, nextE_y hpos]; simp)) rfl) w) ⟨hS.bk (k := 0) rfl, by have h9 := (hview _ (hS.ro_ (k := 2) rfl)).1; rwa [someV_1 hpos] at h9⟩ rfl ?_
                      refine WH.take (listed' := #[true, true, true, true, true, true, true, true, true, true, true, true, true, true, true, true, true, true, true, true, true, true, true, true]) 23 rfl (by kernel_rfl) (by kernel_rfl) (by kernel_rfl) (fun _ _ _ h => h) rfl (fun w _ => PV.rv (pv_pick0 (lkB rfl (by rw [idK_y hpos]; simp)) rfl) w) ⟨hS.bk (k := 0) rfl, by have h9 := (hview _ (hS.ro_ (k := 2) rfl)).1; rwa [someV_1 hpos] at h9⟩ rfl ?_
                      refine WH.done (by kernel_rfl) ?_
                      refine QN.thenW ?_
                      refine WC.condF rfl rfl ?_
                      refine WC.skip ?_
                      refine QN.blockN ?_
                      first
                      | (have hend : K32 (ks.drop 1) ∧ (ks.drop 1).length ≤ 130 + 30 * i ∧ _ := ⟨hK.drop 1, (by simp; omega), fin_c (fr := [_, _]) (ks2 := ks.drop 1) hS (by rw [← hk0]; exact (hview _ (hS.ro_ (k := 2) rfl)).2) hown⟩)
                      | (have hend : K32 ((someV ks nn).2.1) ∧ ((someV ks nn).2.1).length ≤ 130 + 30 * i ∧ _ := ⟨hsk.2.1, (by have := hk1; omega), fin_c (fr := [_]) (ks2 := (someV ks nn).2.1) (by have := hS.erase 2; exact this) (hview _ (hS.ro_ (k := 1) rfl)).2 hown⟩)
                      | (have hend : K32 (ks ++ L) ∧ (ks ++ L).length ≤ 130 + 30 * i ∧ _ := ⟨hK.app hKl, (by simp; have := hk3; omega), (((hS.toRo (k := 0) rfl).erase 1).erase 1 : ST _ _ _ [_, _, _])⟩)
                      | (have hend : K32 (ks) ∧ (ks).length ≤ 130 + 30 * i ∧ _ := ⟨hK, (by omega), (hS.erase 0 : ST _ _ _ [_, _, _])⟩)
                      refine QN.midE ?_
                      exact ⟨((_, _, _)), (Sub.cons rfl (Sub.cons rfl (Sub.cons rfl (Sub.cons rfl (Sub.cons rfl (Sub.cons rfl (Sub.cons rfl Sub.nil))))))), hend⟩
                    · skip
                      refine WC.draw (S := fun w => Bk w b17 59 (bs8 (idK ks))) (fuel := 24) (listed := #[false, false, false, false, false, false, false, false, false, false, false, false, false, false, false, false, false, false, false, false, false, false, false, false]) mixedO rfl rfl ?_
                      have hS := hS.no (Fr.drew _)
                      refine WH.take (listed' := #[true, false, false, false, false, false, false, false, false, false, false, false, false, false, false, false, false, false, false, false, false, false, false, false]) 0 rfl (by kernel_rfl) (by kernel_rfl) (by kernel_rfl) (fun _ _ _ h => h) rfl (fun w _ => PV.rv (pv_move rfl) w) (hS.bk (k := 0) rfl) rfl ?_
                      refine WH.take (listed' := #[true, true, false, false, false, false, false, false, false, false, false, false, false, false, false, false, false, false, false, false, false, false, false, false]) 1 rfl (by kernel_rfl) (by kernel_rfl) (by kernel_rfl) (fun _ _ _ h => h) rfl (fun w _ => PV.rv (pv_move rfl) w) (hS.bk (k := 0) rfl) rfl ?_
                      refine WH.take (listed' := #[true, true, true, false, false, false, false, false, false, false, false, false, false, false, false, false, false, false, false, false, false, false, false, false]) 2 rfl (by kernel_rfl) (by kernel_rfl) (by kernel_rfl) (fun _ _ _ h => h) rfl (fun w _ => PV.rv (pv_neq rfl rfl) w) (hS.bk (k := 0) rfl) rfl ?_
                      refine WH.take (listed' := #[true, true, true, true, false, false, false, false, false, false, false, false, false, false, false, false, false, false, false, false, false, false, false, false]) 3 rfl (by kernel_rfl) (by kernel_rfl) (by kernel_rfl) (fun _ _ _ h => h) rfl (fun w _ => PV.rv (pv_move rfl) w) (hS.bk (k := 0) rfl) rfl ?_
                      refine WH.takeT (listed' := #[true, true, true, true, true, false, false, false, false, false, false, false, false, false, false, false, false, false, false, false, false, false, false, false]) 4 rfl rfl rfl (lkF rfl (by rw [he0]; simp)) (by kernel_rfl) (by kernel_rfl) (by kernel_rfl) (fun _ _ _ h => h) rfl (fun w _ => PV.rv (pv_move rfl) w) (hS.bk (k := 0) rfl) rfl ?_
                      refine WH.takeT (listed' := #[true, true, true, true, true, true, false, false, false, false, false, false, false, false, false, false, false, false, false, false, false, false, false, false]) 5 rfl rfl rfl (lkF rfl (by rw [he0]; simp)) (by kernel_rfl) (by kernel_rfl) (by kernel_rfl) (fun _ _ _ h => h) rfl (fun w _ => PV.rv (pv_eql rfl rfl) w) (hS.bk (k := 0) rfl) rfl ?_
                      refine WH.takeT (listed' := #[true, true, true, true, true, true, true, false, false, false, false, false, false, false, false, false, false, false, false, false, false, false, false, false]) 6 rfl rfl rfl (lkF rfl (by rw [he0]; simp)) (by kernel_rfl) (by kernel_rfl) (by kernel_rfl) (fun _ _ _ h => h) rfl (fun w _ => PV.rv (pv_move rfl) w) (hS.bk (k := 0) rfl) rfl ?_
                      refine WH.takeF (listed' := #[true, true, true, true, true, true, true, true, false, false, false, false, false, false, false, false, false, false, false, false, false, false, false, false]) 7 rfl rfl rfl (lkF rfl (by rw [he0, nextE_n hpos]; simp)) (by kernel_rfl) (by kernel_rfl) (by kernel_rfl) (fun _ _ _ h => h) rfl (hS.bk (k := 0) rfl) rfl ?_
                      refine WH.takeF (listed' := #[true, true, true, true, true, true, true, true, true, false, false, false, false, false, false, false, false, false, false, false, false, false, false, false]) 8 rfl rfl rfl (lkF rfl (by rw [he0, nextE_n hpos]; simp)) (by kernel_rfl) (by kernel_rfl) (by kernel_rfl) (fun _ _ _ h => h) rfl (hS.bk (k := 0) rfl) rfl ?_
                      refine WH.takeF (listed' := #[true, true, true, true, true, true, true, true, true, true, false, false, false, false, false, false, false, false, false, false, false, false, false, false]) 9 rfl rfl rfl (lkF rfl (by rw [he0, nextE_n hpos]; simp)) (by kernel_rfl) (by kernel_rfl) (by kernel_rfl) (fun _ _ _ h => h) rfl (hS.bk (k := 0) rfl) rfl ?_
                      refine WH.takeF (listed' := #[true, true, true, true, true, true, true, true, true, true, true, false, false, false, false, false, false, false, false, false, false, false, false, false]) 10 rfl rfl rfl (lkF rfl (by rw [he0, nextE_n hpos]; simp)) (by kernel_rfl) (by kernel_rfl) (by kernel_rfl) (fun _ _ _ h => h) rfl (hS.bk (k := 0) rfl) rfl ?_
                      refine WH.one (listed' := #[true, true, true, true, true, true, true, true, true, true, true, true, false, false, false, false, false, false, false, false, false, false, false, false]) 11 rfl (by kernel_rfl) rfl ?_
                      refine WL.guardF rfl rfl rfl (lkF rfl (by rw [he0, nextE_n hpos]; simp)) rfl rfl ?_
                      refine WL.nil ?_
                      refine QN.held (hS.bk (k := 0) rfl) ?_
                      refine WH.takeF (listed' := #[true, true, true, true, true, true, true, true, true, true, true, true, true, false, false, false, false, false, false, false, false, false, false, false]) 12 rfl rfl rfl (lkF rfl (by rw [he0, nextE_n hpos]; simp)) (by kernel_rfl) (by kernel_rfl) (by kernel_rfl) (fun _ _ _ h => h) rfl (hS.bk (k := 0) rfl) rfl ?_
                      refine WH.takeT (listed' := #[true, true, true, true, true, true, true, true, true, true, true, true, true, true, false, false, false, false, false, false, false, false, false, false]) 13 rfl rfl rfl (lkF rfl (by rw [he0]; simp)) (by kernel_rfl) (by kernel_rfl) (by kernel_rfl) (fun _ _ _ h => h) rfl (fun w _ => PV.rv (pv_pick0 (lkF rfl (by rw [he0, nextE_n hpos]; simp)) rfl) w) (hS.bk (k := 0) rfl) rfl ?_
                      refine WH.take (listed' := #[true, true, true, true, true, true, true, true, true, true, true, true, true, true, true, false, false, false, false, false, false, false, false, false]) 14 rfl (by kernel_rfl) (by kernel_rfl) (by kernel_rfl) (fun _ _ _ h => h) rfl (fun w _ => PV.rv (pv_pick0 (lkF rfl (by rw [he0]; simp)) rfl) w) (hS.bk (k := 0) rfl) rfl ?_
                      refine WH.take (listed' := #[true, true, true, true, true, true, true, true, true, true, true, true, true, true, true, true, false, false, false, false, false, false, false, false]) 15 rfl (by kernel_rfl) (by kernel_rfl) (by kernel_rfl) (fun _ _ _ h => h) rfl (fun w _ => PV.rv (pv_move rfl) w) (hS.bk (k := 0) rfl) rfl ?_
                      refine WH.takeT (listed' := #[true, true, true, true, true, true, true, true, true, true, true, true, true, true, true, true, true, false, false, false, false, false, false, false]) 16 rfl rfl rfl (lkB rfl rfl) (by kernel_rfl) (by kernel_rfl) (by kernel_rfl) (fun _ _ _ h => h) rfl (fun w _ => PV.rv (pv_move rfl) w) (hS.bk (k := 0) rfl) rfl ?_
                      refine WH.takeT (listed' := #[true, true, true, true, true, true, true, true, true, true, true, true, true, true, true, true, true, true, false, false, false, false, false, false]) 17 rfl rfl rfl (lkB rfl rfl) (by kernel_rfl) (by kernel_rfl) (by kernel_rfl) (fun _ _ _ h => h) rfl (fun w _ => PV.rv (pv_neq rfl rfl) w) (hS.bk (k := 0) rfl) rfl ?_
                      refine WH.takeT (listed' := #[true, true, true, true, true, true, true, true, true, true, true, true, true, true, true, true, true, true, true, false, false, false, false, false]) 18 rfl rfl rfl (lkB rfl rfl) (by kernel_rfl) (by kernel_rfl) (by kernel_rfl) (fun _ _ _ h => h) rfl (fun w _ => PV.rv (pv_move rfl) w) (hS.bk (k := 0) rfl) rfl ?_
                      refine WH.takeT (listed' := #[true, true, true, true, true, true, true, true, true, true, true, true, true, true, true, true, true, true, true, true, false, false, false, false]) 19 rfl rfl rfl (lkT rfl (by rw [he0, nextE_n hpos]; simp)) (by kernel_rfl) (by kernel_rfl) (by kernel_rfl) (fun _ _ _ h => h) rfl (fun w hS => rv_loadA (by rw [aggT_59, bs8_len, idK_len]) rfl (fun j u hu => by rw [Nat.zero_add, Bk.cell hS]; exact hu)) (hS.bk (k := 0) rfl) rfl ?_
                      refine WH.takeT (listed' := #[true, true, true, true, true, true, true, true, true, true, true, true, true, true, true, true, true, true, true, true, true, false, false, false]) 20 rfl rfl rfl (lkT rfl (by rw [he0, nextE_n hpos]; simp)) (by kernel_rfl) (by kernel_rfl) (by kernel_rfl) (fun _ _ _ h => h) rfl (fun w _ => PV.rv (pv_buildA (parts := []) (cells := bs8 (List.replicate 16 0)) arrT_59 zeroT_59 rfl rfl) w) (hS.bk (k := 0) rfl) rfl ?_
                      refine WH.takeT (listed' := #[true, true, true, true, true, true, true, true, true, true, true, true, true, true, true, true, true, true, true, true, true, true, false, false]) 21 rfl rfl rfl (lkT rfl (by rw [he0, nextE_n hpos]; simp)) (by kernel_rfl) (by kernel_rfl) (by kernel_rfl) (fun _ _ _ h => h) rfl (fun w _ => PV.rv (pv_neqA8 Try.underlying59 Try.underlying5 cellsT_5 eqgT_59 rfl rfl (idK_len _) (by simp)) w) (hS.bk (k := 0) rfl) rfl ?_
                      refine WH.takeT (listed' := #[true, true, true, true, true, true, true, true, true, true, true, true, true, true, true, true, true, true, true, true, true, true, true, false]) 22 rfl rfl rfl (lkB rfl rfl) (by kernel_rfl) (by kernel_rfl) (by kernel_rfl) (fun _ _ _ h => h) rfl (fun w _ => PV.rv (pv_pick1 (lkT rfl (by rw [he0, nextE_n hpos]; simp)) rfl) w) (hS.bk (k := 0) rfl) rfl ?_
                      refine WH.take (listed' := #[true, true, true, true, true, true, true, true, true, true, true, true, true, true, true, true, true, true, true, true, true, true, true, true]) 23 rfl (by kernel_rfl) (by kernel_rfl) (by kernel_rfl) (fun _ _ _ h => h) rfl (fun w _ => PV.rv (pv_pick0 (lkB rfl rfl) rfl) w) (hS.bk (k := 0) rfl) rfl ?_
                      refine WH.done (by kernel_rfl) ?_
                      refine QN.thenW ?_
                      refine WC.condF rfl (by rw [idK_n hpos]; simp) ?_
                      refine WC.skip ?_
                      refine QN.blockN ?_
                      first
                      | (have hend : K32 (ks.drop 1) ∧ (ks.drop 1).length ≤ 130 + 30 * i ∧ _ := ⟨hK.drop 1, (by simp; omega), fin_c (fr := [_, _]) (ks2 := ks.drop 1) hS (by rw [← hk0]; exact (hview _ (hS.ro_ (k := 2) rfl)).2) hown⟩)
                      | (have hend : K32 ((someV ks nn).2.1) ∧ ((someV ks nn).2.1).length ≤ 130 + 30 * i ∧ _ := ⟨hsk.2.1, (by have := hk1; omega), fin_c (fr := [_]) (ks2 := (someV ks nn).2.1) (by have := hS.erase 2; exact this) (hview _ (hS.ro_ (k := 1) rfl)).2 hown⟩)
                      | (have hend : K32 (ks ++ L) ∧ (ks ++ L).length ≤ 130 + 30 * i ∧ _ := ⟨hK.app hKl, (by simp; have := hk3; omega), (((hS.toRo (k := 0) rfl).erase 1).erase 1 : ST _ _ _ [_, _, _])⟩)
                      | (have hend : K32 (ks) ∧ (ks).length ≤ 130 + 30 * i ∧ _ := ⟨hK, (by omega), (hS.erase 0 : ST _ _ _ [_, _, _])⟩)
                      refine QN.midE ?_
                      exact ⟨((_, _, _)), (Sub.cons rfl (Sub.cons rfl (Sub.cons rfl (Sub.cons rfl (Sub.cons rfl (Sub.cons rfl (Sub.cons rfl Sub.nil))))))), hend⟩
                  · skip
                    refine WC.seq ?_
                    refine WC.region ?_
                    refine WL.pv (pv_eql rfl rfl) rfl ?_
                    refine WL.pv (pv_assign rfl) rfl ?_
                    refine WL.nil ?_
                    refine QN.thenW ?_
                    refine WC.condD rfl (fun hc140 => ?_) (fun hc140 => ?_)
                    · skip
                      refine WC.seq ?_
                      refine WC.region ?_
                      refine WL.pv (pv_move rfl) rfl ?_
                      refine WL.pv (pv_fieldAddrZ fldT_50_2 rfl) rfl ?_
                      refine WL.rv (rv_load_blk (k := 0) hS oneT_45 rfl rfl rfl) rfl ?_
                      refine WL.call (args := [.tmp 142, .tmp 144]) cf_44 rfl rfl (more_c bd v ks _ (ST.part (fr := [.blk b8 50 [.int .i64 kd, .int .i64 nn, .slice As ms cs], .ro (.slice A6 m6 c6) 32 (kc ks)]) (es := esD bd v ks) hS) hK _ _ _ L (hsl.no hS.fr) (fun h0 b hb hO => hS.notOurs hsl h0 hb (Ours.front (fr := [_, _]) hO)) hKl (by omega)) ?_
                      rintro _ w ⟨rfl, v2, hS2⟩
                      refine ⟨_, rfl, ?_⟩
                      replace hS := ST.call (fr := [.blk b8 50 [.int .i64 kd, .int .i64 nn, .slice As ms cs], .ro (.slice A6 m6 c6) 32 (kc ks)]) (es := esD bd v ks) hS hS2
                      simp only [List.cons_append, List.nil_append, esD] at hS
                      have hk3 : True := trivial
                      refine WL.nil ?_
                      refine QN.thenW ?_
                      refine WC.draw (S := fun w => Bk w b8 50 [.int .i64 kd, .int .i64 nn, .slice As ms cs]) (fuel := 7) (listed := #[false, false, false, false, false, false, false]) mixedO rfl rfl ?_
                      have hS := hS.no (Fr.drew _)
                      refine WH.take (listed' := #[false, true, false, false, false, false, false]) 1 rfl (by kernel_rfl) (by kernel_rfl) (by kernel_rfl) (fun _ _ _ h => h) rfl (fun w _ => PV.rv (pv_move rfl) w) (hS.bk (k := 0) rfl) rfl ?_
                      refine WH.take (listed' := #[false, true, false, true, false, false, false]) 3 rfl (by kernel_rfl) (by kernel_rfl) (by kernel_rfl) (fun _ _ _ h => h) rfl (fun w _ => PV.rv (pv_fieldAddrZ fldT_50_2 rfl) w) (hS.bk (k := 0) rfl) rfl ?_
                      refine WH.take (listed' := #[false, true, false, true, true, false, false]) 4 rfl (by kernel_rfl) (by kernel_rfl) (by kernel_rfl) (fun _ _ _ h => h) rfl (fun w hS => rv_load_blkB hS oneT_45 rfl rfl) (hS.bk (k := 0) rfl) rfl ?_
                      refine WH.one (listed' := #[true, true, false, true, true, false, false]) 0 rfl (by kernel_rfl) rfl ?_
                      refine WL.build0 hS slT_45 rfl ?_
                      intro r146 w hr146 hS
                      refine WL.nil ?_
                      refine QN.held (hS.bk (k := 1) rfl) ?_
                      refine WH.one (listed' := #[true, true, true, true, true, false, false]) 2 rfl (by kernel_rfl) rfl ?_
                      refine WL.append (k := 0) (N := 65536) hS slT_45 zlenT_25 (by decide) rfl rfl rfl (hS.ro_ (k := 2) rfl) kc_one (by rw [hK.len]; simp; omega) (by omega) (by simp [maxLen]) rfl ?_
                      intro v148 w hFr148 hS
                      try simp only [List.set] at hS
                      rw [List.nil_append] at hS
                      refine WL.nil ?_
                      refine QN.held (hS.bk (k := 1) rfl) ?_
                      refine WH.one (listed' := #[true, true, true, true, true, true, false]) 5 rfl (by kernel_rfl) rfl ?_
                      refine WL.append (k := 0) (N := 65536) hS slT_45 zlenT_25 (by decide) rfl rfl rfl (hsl.no hS.fr) kc_one (by rw [hK.len, hKl.len]; omega) (by omega) (by simp [maxLen]) rfl ?_
                      intro v151 w hFr151 hS
                      try simp only [List.set] at hS
                      rw [← kc_app] at hS
                      refine WL.nil ?_
                      refine QN.held (hS.bk (k := 1) rfl) ?_
                      refine WH.take (listed' := #[true, true, true, true, true, true, true]) 6 rfl (by kernel_rfl) (by kernel_rfl) (by kernel_rfl) (fun _ _ _ h => h) rfl (fun w _ => PV.rv (pv_assign rfl) w) (hS.bk (k := 1) rfl) rfl ?_
                      refine WH.done (by kernel_rfl) ?_
                      refine QN.blockN ?_
                      first
                      | (have hend : K32 (ks.drop 1) ∧ (ks.drop 1).length ≤ 130 + 30 * i ∧ _ := ⟨hK.drop 1, (by simp; omega), fin_c (fr := [_, _]) (ks2 := ks.drop 1) hS (by rw [← hk0]; exact (hview _ (hS.ro_ (k := 2) rfl)).2) hown⟩)
                      | (have hend : K32 ((someV ks nn).2.1) ∧ ((someV ks nn).2.1).length ≤ 130 + 30 * i ∧ _ := ⟨hsk.2.1, (by have := hk1; omega), fin_c (fr := [_]) (ks2 := (someV ks nn).2.1) (by have := hS.erase 2; exact this) (hview _ (hS.ro_ (k := 1) rfl)).2 hown⟩)
                      | (have hend : K32 (ks ++ L) ∧ (ks ++ L).length ≤ 130 + 30 * i ∧ _ := ⟨hK.app hKl, (by simp; have := hk3; omega), (((hS.toRo (k := 0) rfl).erase 1).erase 1 : ST _ _ _ [_, _, _])⟩)
                      | (have hend : K32 (ks) ∧ (ks).length ≤ 130 + 30 * i ∧ _ := ⟨hK, (by omega), (hS.erase 0 : ST _ _ _ [_, _, _])⟩)
                      refine QN.midE ?_
                      exact ⟨((_, _, _)), (Sub.cons rfl (Sub.cons rfl (Sub.cons rfl (Sub.cons rfl (Sub.cons rfl (Sub.cons rfl (Sub.cons rfl Sub.nil))))))), hend⟩
                    · skip
                      refine WC.region ?_
                      refine WL.pv (pv_move rfl) rfl ?_
                      refine WL.pv (pv_assign rfl) rfl ?_
                      refine WL.nil ?_
                      refine QN.blockN ?_
                      first
                      | (have hend : K32 (ks.drop 1) ∧ (ks.drop 1).length ≤ 130 + 30 * i ∧ _ := ⟨hK.drop 1, (by simp; omega), fin_c (fr := [_, _]) (ks2 := ks.drop 1) hS (by rw [← hk0]; exact (hview _ (hS.ro_ (k := 2) rfl)).2) hown⟩)
                      | (have hend : K32 ((someV ks nn).2.1) ∧ ((someV ks nn).2.1).length ≤ 130 + 30 * i ∧ _ := ⟨hsk.2.1, (by have := hk1; omega), fin_c (fr := [_]) (ks2 := (someV ks nn).2.1) (by have := hS.erase 2; exact this) (hview _ (hS.ro_ (k := 1) rfl)).2 hown⟩)
                      | (have hend : K32 (ks ++ L) ∧ (ks ++ L).length ≤ 130 + 30 * i ∧ _ := ⟨hK.app hKl, (by simp; have := hk3; omega), (((hS.toRo (k := 0) rfl).erase 1).erase 1 : ST _ _ _ [_, _, _])⟩)
                      | (have hend : K32 (ks) ∧ (ks).length ≤ 130 + 30 * i ∧ _ := ⟨hK, (by omega), (hS.erase 0 : ST _ _ _ [_, _, _])⟩)
                      refine QN.midE ?_
                      exact ⟨((_, _, _)), (Sub.cons rfl (Sub.cons rfl (Sub.cons rfl (Sub.cons rfl (Sub.cons rfl (Sub.cons rfl (Sub.cons rfl Sub.nil))))))), hend⟩
            · rintro ⟨ks2, v2, r2⟩ w hR
              change K32 ks2 ∧ ks2.length ≤ 130 + 30 * i ∧ ST w0 No w [.ro r2 32 (kc ks2), .blk bd 108 [v2], .ro v2 32 (kc ks2)] at hR
              show WC _ _ _ _ [(0, .slice A m c), (1, .slice (some ⟨ba, oa, none⟩) m2 c2), (5, .pointer (some ⟨bd, 0, none⟩)), (11, r2), (36, .slice (some ⟨ba, oa, none⟩) m2 c2), (37, .int .i64 (m2 : Int)), (38, .int .i64 (i : Int))] _
              obtain ⟨hK2, hL2, hS⟩ := hR
              obtain ⟨A7, m7, c7, rfl, _, _, _, _⟩ := id (hS.ro_ (k := 0) rfl)
              have hl7 := (hS.ro_ (k := 0) rfl).lenK hK2
              refine WC.seq ?_
              refine WC.region ?_
              refine WL.pv (pv_move rfl) rfl ?_
              refine WL.pv (pv_assign rfl) rfl ?_
              refine WL.nil ?_
              refine QN.thenW ?_
              refine WC.seq ?_
              refine WC.region ?_
              refine WL.pv (pv_move rfl) rfl ?_
              refine WL.call (args := [.tmp 153]) cf_45 rfl rfl (left_c bd v2 ks2 _ (ST.part (fr := [.ro (.slice A7 m7 c7) 32 (kc ks2)]) (es := esD bd v2 ks2) hS) hK2) ?_
              rintro _ w ⟨rfl, hF⟩
              refine ⟨_, rfl, ?_⟩
              replace hS := hS.no hF
              refine WL.pv (pv_move rfl) rfl ?_
              refine WL.pv (pv_len slS_45 rfl) rfl ?_
              refine WL.pv (pv_neq rfl rfl) rfl ?_
              refine WL.nil ?_
              refine QN.thenW ?_
              refine WC.condDF rfl (by omega) ?_
              refine WC.skip ?_
              refine QN.blockN ?_
              refine QN.thenW ?_
              refine WC.region ?_
              refine WL.pv (pv_add rfl rfl (by omega)) rfl ?_
              refine WL.pv (pv_move rfl) rfl ?_
              refine WL.nil ?_
              refine QN.roundE ?_
              refine ⟨((i + 1, ks2, v2, .slice A7 m7 c7)), (Sub.cons rfl (Sub.cons rfl (Sub.cons rfl (Sub.cons rfl (Sub.cons rfl (Sub.cons rfl (Sub.cons rfl Sub.nil))))))), ⟨by show i + 1 ≤ m2; omega, hK2, by show ks2.length ≤ 100 + 30 * (i + 1); omega, hS⟩, ?_⟩
              first | omega | (dsimp only; omega)
      · skip
        refine WC.exit ?_
        refine QN.thenX ?_
        refine QN.thenX ?_
        refine QN.blockX ?_
        refine QN.thenW ?_
        refine WC.seq ?_
        refine WC.region ?_
        refine WL.pv (pv_assign rfl) rfl ?_
        refine WL.nil ?_
        refine QN.thenW ?_
        refine WC.ret ?_
        refine QN.ret1 rfl rfl ?_
        exact ⟨rfl, hS.fr⟩
  · skip
    refine WC.region ?_
    refine WL.pv (pv_move rfl) rfl ?_
    refine WL.pv (pv_len slS_45 rfl) rfl ?_
    refine WL.pv (pv_gtr rfl rfl) rfl ?_
    refine WL.pv (pv_move rfl) rfl ?_
    refine WL.guardF rfl rfl rfl (lkT rfl (by omega)) rfl rfl ?_
    refine WL.guardF rfl rfl rfl (lkT rfl (by omega)) rfl rfl ?_
    refine WL.guardF rfl rfl rfl (lkT rfl (by omega)) rfl rfl ?_
    refine WL.pv (pv_pick1 (lkT rfl (by omega)) rfl) rfl ?_
    refine WL.nil ?_
    refine QN.thenW ?_
    refine WC.condT rfl rfl ?_
    refine WC.seq ?_
    refine WC.region ?_
    refine WL.pv (pv_assign rfl) rfl ?_
    refine WL.nil ?_
    refine QN.thenW ?_
    refine WC.ret ?_
    refine QN.thenR ?_
    refine QN.ret1 rfl rfl ?_
    exact ⟨rfl, hS.fr⟩

end Go.Proofs.Ytjcebkhhgdgohaa
namespace Go.Proofs.Ytjcebkhhgdgohaa
open Go Go.RowKit Go.Eng


theorem acts_of_trod {H : Type} {enc : TypeId × Value → H} {w : World} {base fuel m c : Nat} {A : Option Addr} {x : DataW H × List MemPlace} (h : DataW.trod enc Try.prog w base (fun _ => true) true fuel 46 [.slice A m c] = some x) : ActsR w (.slice A m c) m := by
  obtain ⟨css, hR, ⟨A', c', he⟩, hall⟩ := elems_of_trod Try.underlying46 (by rw [show Try.prog.cellsOf 50 = 3 from by kernel_rfl]; omega) h
  have c50 : Try.prog.cellsOf 50 = 3 := by kernel_rfl
  have c3 : Try.prog.cellsOf 3 = 1 := by kernel_rfl
  have c45 : Try.prog.cellsOf 45 = 1 := by kernel_rfl
  have u5 : Try.prog.cellsOf 5 = 1 := by kernel_rfl
  have c25 : Try.prog.cellsOf 25 = 32 := by kernel_rfl
  rw [c50] at hR hall
  injection he with _ he _
  refine ⟨css, hR, he.symm, fun c hc => (hall c hc).1, fun c hc => ?_⟩
  obtain ⟨hl, f, y, hy⟩ := hall c hc
  obtain ⟨x0, x1, x2, rfl⟩ : ∃ x0 x1 x2, c = [x0, x1, x2] := by
    match c, hl with
    | [x0, x1, x2], _ => exact ⟨x0, x1, x2, rfl⟩
  obtain ⟨_, _, h0⟩ := fld1_of_trod Try.underlying50 hy 0 rfl c3 (v := x0) rfl
  obtain ⟨_, _, h1⟩ := fld1_of_trod Try.underlying50 hy 1 rfl c3 (v := x1) rfl
  obtain ⟨_, _, h2⟩ := fld1_of_trod Try.underlying50 hy 2 rfl c45 (v := x2) rfl
  obtain ⟨kd, e0, _, _⟩ := DataW.trod_int Try.underlying3 h0
  obtain ⟨nn, e1, _, hw⟩ := DataW.trod_int Try.underlying3 h1
  obtain ⟨L, hK, hL, A2, c2, e2⟩ := keys_of_trod Try.underlying45 Try.underlying25 Try.underlying5 u5 c25 h2
  injection e0 with e0; injection e1 with e1
  subst e0; subst e1; subst e2
  have hb := wf_i64 hw
  exact ⟨kd, nn, A2, _, c2, L, rfl, hL, hK, hb.1, hb.2⟩

end Go.Proofs.Ytjcebkhhgdgohaa
