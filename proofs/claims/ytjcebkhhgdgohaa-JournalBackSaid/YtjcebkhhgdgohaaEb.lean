/- The engine: rules by which a run of a function is read off, second part. -/
import Derived.StillTail
import Derived.ChangeKeysEq
import Derived.Laws.IdiomStrings
import Derived.OpenShut
import Derived.Deep.Slices
import Derived.Test.YtjcebkhhgdgohaaEa
namespace Go.Eng
open Go Go.RowKit
section
variable {P : Program} {n : Md} {ops : Array Oper} {Q : QT} {rest : List Oper} {l : Env} {w w0 : World} {M : Nat → Prop} {hp : List Ent} {d : Nat} {ty : TypeId} {pos : String} {af : Array Edge} {v : Value} {T U : TypeId} {x y z : Operand}
theorem pv_fieldAddrZ {S f b off : Nat} (hT : fldT P S f = some off) (hx : ev l x = some (.pointer (some ⟨b, 0, none⟩))) : PV P l ⟨some d, .fieldAddr S x f, ty, pos, af, none⟩ (.pointer (some ⟨b, off, none⟩)) := by
  have := pv_fieldAddr (d := d) (ty := ty) (pos := pos) (af := af) hT hx
  rwa [Nat.zero_add] at this
theorem pv_indexAddrA1 {k : IntKind} {b o j len : Nat} {i : Int} (hT : arrT P T = some (len, 1)) (hx : ev l x = some (.pointer (some ⟨b, o, none⟩))) (hy : ev l y = some (.int k i)) (hi : i = (j : Int)) (hj : j < len) :
    PV P l ⟨some d, .indexAddr T x y, ty, pos, af, none⟩ (.pointer (some ⟨b, o + j, none⟩)) := by
  have := pv_indexAddrA (d := d) (ty := ty) (pos := pos) (af := af) hT hx hy hi hj
  rwa [Nat.mul_one] at this
theorem pv_indexAddrA1Z {k : IntKind} {b j len : Nat} {i : Int} (hT : arrT P T = some (len, 1)) (hx : ev l x = some (.pointer (some ⟨b, 0, none⟩))) (hy : ev l y = some (.int k i)) (hi : i = (j : Int)) (hj : j < len) :
    PV P l ⟨some d, .indexAddr T x y, ty, pos, af, none⟩ (.pointer (some ⟨b, j, none⟩)) := by
  have := pv_indexAddrA1 (d := d) (ty := ty) (pos := pos) (af := af) hT hx hy hi hj
  rwa [Nat.zero_add] at this
theorem pv_indexAddrS1 {k : IntKind} {b o j len cap e by_ : Nat} {i : Int} (hT : slT P T = some (e, 1, by_)) (hx : ev l x = some (.slice (some ⟨b, o, none⟩) len cap)) (hy : ev l y = some (.int k i)) (hi : i = (j : Int)) (hj : j < len) :
    PV P l ⟨some d, .indexAddr T x y, ty, pos, af, none⟩ (.pointer (some ⟨b, o + j, none⟩)) := by
  have := pv_indexAddrS (d := d) (ty := ty) (pos := pos) (af := af) hT hx hy hi hj
  rwa [Nat.mul_one] at this
theorem pv_indexAddrS1Z {k : IntKind} {b j len cap e by_ : Nat} {i : Int} (hT : slT P T = some (e, 1, by_)) (hx : ev l x = some (.slice (some ⟨b, 0, none⟩) len cap)) (hy : ev l y = some (.int k i)) (hi : i = (j : Int)) (hj : j < len) :
    PV P l ⟨some d, .indexAddr T x y, ty, pos, af, none⟩ (.pointer (some ⟨b, j, none⟩)) := by
  have := pv_indexAddrS1 (d := d) (ty := ty) (pos := pos) (af := af) hT hx hy hi hj
  rwa [Nat.zero_add] at this
/-- A cut from the head on. -/
theorem pv_sliceH {hi : Option Operand} {vh : Option Value} {A : Option Addr} {len cap e sz by_ b : Nat} (hT : slT P T = some (e, sz, by_)) (hx : ev l x = some (.slice A len cap))
    (hh : optv l hi = some vh) (nh : bnd len vh = some (b : Int)) (hbc : b ≤ cap) :
    PV P l ⟨some d, .slice T x none hi none, ty, pos, af, none⟩ (.slice A b cap) := by
  have := pv_sliceS (d := d) (ty := ty) (pos := pos) (af := af) (lo := none) (mx := none) (a := 0) hT hx rfl hh rfl rfl nh rfl (by simp) (Nat.zero_le _) hbc (Nat.le_refl _)
  have e1 : (if cap = 0 then A else A.map (·.add (0 * sz))) = A := by
    split
    · rfl
    · cases A <;> simp [Addr.add]
  rw [e1] at this
  simpa using this
/-- A whole array by its address. -/
theorem pv_sliceW {g len sz : Nat} (hT : arrT P T = some (len, sz)) (hx : ev l x = some (.pointer (some ⟨g, 0, none⟩))) :
    PV P l ⟨some d, .slice T x none none none, ty, pos, af, none⟩ (.slice (some ⟨g, 0, none⟩) len len) := by
  have := pv_sliceA (d := d) (ty := ty) (pos := pos) (af := af) (lo := none) (hi := none) (a := 0) (b := len) hT hx rfl rfl rfl rfl (Nat.zero_le _) (Nat.le_refl _)
  simpa using this
-- a pointer, a slice against nil
theorem run_eq (T : TypeId) (a b : Value) : Op.equal T a b = Op.equalIn (9999 + 1) T a b := rfl
theorem run_eqP (m : Nat) {E : TypeId} {p q : Option Addr} (hT : P.underlying T = some (.pointer E)) (hn : p = none ∨ q = none) (w : World) : (Op.equalIn (m + 1) T (.pointer p) (.pointer q)).run P w = .ok (p.isNone && q.isNone) w := by
  rcases hn with rfl | rfl
  · simp [Op.equalIn, run_underlying hT]
  · cases p <;> simp [Op.equalIn, run_underlying hT]
theorem run_eqS (m : Nat) {p q : Option Addr} {a b c e : Nat} (hT : (slT P T).isSome = true) (hn : p = none ∨ q = none) (w : World) : (Op.equalIn (m + 1) T (.slice p a b) (.slice q c e)).run P w = .ok (p.isNone && q.isNone) w := by
  unfold slT at hT
  cases hu : P.underlying T with
  | none => simp [hu] at hT
  | some u =>
  cases u <;> simp [hu] at hT
  rcases hn with rfl | rfl
  · simp [Op.equalIn, run_underlying hu]
  · cases p <;> simp [Op.equalIn, run_underlying hu]
theorem run_eqB (m : Nat) {a b : Bool} (hT : P.underlying T = some .bool) (w : World) : (Op.equalIn (m + 1) T (.bool a) (.bool b)).run P w = .ok (a == b) w := by
  simp [Op.equalIn, run_underlying hT]
theorem pv_eqlP {E : TypeId} {p q : Option Addr} (hT : P.underlying T = some (.pointer E)) (hx : ev l x = some (.pointer p)) (hy : ev l y = some (.pointer q)) (hn : p = none ∨ q = none) :
    PV P l ⟨some d, .binOp .eql T x y U, ty, pos, af, none⟩ (.bool (p.isNone && q.isNone)) := ⟨rfl, fun ρ hρ w => by
  have h := run_eqP 9999 hT hn w
  simp only [execOp, hρ _ _ hx, hρ _ _ hy, eqGuard, binOp, run_eq]
  simp [h]⟩
theorem pv_neqP {E : TypeId} {p q : Option Addr} (hT : P.underlying T = some (.pointer E)) (hx : ev l x = some (.pointer p)) (hy : ev l y = some (.pointer q)) (hn : p = none ∨ q = none) :
    PV P l ⟨some d, .binOp .neq T x y U, ty, pos, af, none⟩ (.bool !(p.isNone && q.isNone)) := ⟨rfl, fun ρ hρ w => by
  have h := run_eqP 9999 hT hn w
  simp only [execOp, hρ _ _ hx, hρ _ _ hy, eqGuard, binOp, run_eq]
  simp [h]⟩
theorem pv_eqlS {p q : Option Addr} {a b c e : Nat} (hT : (slT P T).isSome = true) (hx : ev l x = some (.slice p a b)) (hy : ev l y = some (.slice q c e)) (hn : p = none ∨ q = none) :
    PV P l ⟨some d, .binOp .eql T x y U, ty, pos, af, none⟩ (.bool (p.isNone && q.isNone)) := ⟨rfl, fun ρ hρ w => by
  have h := run_eqS 9999 (a := a) (b := b) (c := c) (e := e) hT hn w
  simp only [execOp, hρ _ _ hx, hρ _ _ hy, eqGuard, binOp, run_eq]
  simp [h]⟩
theorem pv_neqS {p q : Option Addr} {a b c e : Nat} (hT : (slT P T).isSome = true) (hx : ev l x = some (.slice p a b)) (hy : ev l y = some (.slice q c e)) (hn : p = none ∨ q = none) :
    PV P l ⟨some d, .binOp .neq T x y U, ty, pos, af, none⟩ (.bool !(p.isNone && q.isNone)) := ⟨rfl, fun ρ hρ w => by
  have h := run_eqS 9999 (a := a) (b := b) (c := c) (e := e) hT hn w
  simp only [execOp, hρ _ _ hx, hρ _ _ hy, eqGuard, binOp, run_eq]
  simp [h]⟩
theorem pv_eqlB {a b : Bool} (hT : P.underlying T = some .bool) (hx : ev l x = some (.bool a)) (hy : ev l y = some (.bool b)) :
    PV P l ⟨some d, .binOp .eql T x y U, ty, pos, af, none⟩ (.bool (a == b)) := ⟨rfl, fun ρ hρ w => by
  have h := run_eqB (a := a) (b := b) 9999 hT w
  simp only [execOp, hρ _ _ hx, hρ _ _ hy, eqGuard, binOp, run_eq]
  simp [h]⟩
theorem pv_neqB {a b : Bool} (hT : P.underlying T = some .bool) (hx : ev l x = some (.bool a)) (hy : ev l y = some (.bool b)) :
    PV P l ⟨some d, .binOp .neq T x y U, ty, pos, af, none⟩ (.bool !(a == b)) := ⟨rfl, fun ρ hρ w => by
  have h := run_eqB (a := a) (b := b) 9999 hT w
  simp only [execOp, hρ _ _ hx, hρ _ _ hy, eqGuard, binOp, run_eq]
  simp [h]⟩

-- a region that draws its order, walked in the order of the text
def WS (P : Program) (n : Md) (ops : Array Oper) (w : World) (K : Act → Prop) (rest : List Oper) (l : Env) : Prop := ∀ a, Ag n a l → wpStill P ops w K rest a
theorem WC.still {id : Nat} {lst : List Oper} (hm : P.follows .mixedOrders = true) (hB : Region.lexB .any lst.toArray = true) (h : WS P n lst.toArray w.drew (fun a => Q .normal a w.drew) lst l) (hro : n.ro = none := by rfl) : WC P n (.region id lst.toArray true) Q l w := fun a ha => by
  rw [hro]; exact wpIn_wide.2 (wp_region_still_lit hm hB (h a ha))
theorem WC.stillTail {id : Nat} {lst : List Oper} (k : Nat) (hm : P.follows .mixedOrders = true) (hB : Region.lexTailB .any lst.toArray k = true) (h : WS P n lst.toArray w.drew (fun a => wpList P lst.toArray Q (lst.drop k) a w.drew) (lst.take k) l) (hro : n.ro = none := by rfl) : WC P n (.region id lst.toArray true) Q l w := fun a ha => by
  rw [hro]; exact wpIn_wide.2 (wp_region_still_tail k hm hB (h a ha))
theorem WS.done (h : QN n Q .normal l w) : WS P n ops w (fun a => Q .normal a w) [] l := fun a ha => h a ha
theorem WS.tail {tl : List Oper} (h : WL P n ops Q tl l w) (hrd : n.rd = false := by rfl) : WS P n ops w (fun a => wpList P ops Q tl a w) [] l := fun a ha => wpL_list _ _ _ (by have := h a ha; rwa [hrd] at this)
theorem WS.sub {K : Act → Prop} {m : Env} (hs : Sub l m) (h : WS P n ops w K rest m) : WS P n ops w K rest l := fun a ha => h a (ha.sub hs)
theorem WS.rv {K : Act → Prop} {op : Op} (h : RV P l w ⟨some d, op, ty, pos, af, none⟩ v) (hd : Nat.blt d n.tmps = true) (k : WS P n ops w K rest ((d, v) :: l)) : WS P n ops w K (⟨some d, op, ty, pos, af, none⟩ :: rest) l := fun a ha => by
  unfold wpStill
  rw [if_pos (by simp [Region.wanted])]
  unfold Oper.still
  rw [h.2 _ ha.agr, Oper.stillUpon_value]
  exact k _ (ha.put v (Nat.le_of_ble_eq_true hd))
theorem WS.pv {K : Act → Prop} {op : Op} (h : PV P l ⟨some d, op, ty, pos, af, none⟩ v) (hd : Nat.blt d n.tmps = true) (k : WS P n ops w K rest ((d, v) :: l)) : WS P n ops w K (⟨some d, op, ty, pos, af, none⟩ :: rest) l := WS.rv (h.rv w) hd k
theorem WS.guardT {K : Act → Prop} {o g : Oper} {j t : Nat} {b : Bool} (hg : o.guard = some (j, b)) (hj : ops[j]? = some g) (ht : g.dst = some t) (hv : lk l t = some (.bool b))
    (k : WS P n ops w K ({ o with guard := none } :: rest) l) : WS P n ops w K (o :: rest) l := fun a ha => by
  have hy : yielded ops a.tmps j = some b := by simp [yielded, hj, ht, ha.at_ t _ hv]
  have hw : Region.wanted o (yielded ops a.tmps) = true := by simp [Region.wanted, hg, hy]
  have := k a ha
  unfold wpStill at this ⊢
  rw [if_pos hw]
  rw [if_pos (by simp [Region.wanted])] at this
  exact this
theorem WS.guardF {K : Act → Prop} {o g : Oper} {j t d : Nat} {b : Bool} (hg : o.guard = some (j, b)) (hj : ops[j]? = some g) (ht : g.dst = some t) (hv : lk l t = some (.bool (!b))) (ho : o.dst = some d) (hd : Nat.blt d n.tmps = true)
    (k : WS P n ops w K rest ((d, undef) :: l)) : WS P n ops w K (o :: rest) l := fun a ha => by
  have hy : yielded ops a.tmps j = some (!b) := by simp [yielded, hj, ht, ha.at_ t _ hv]
  have hw : Region.wanted o (yielded ops a.tmps) = false := by simp [Region.wanted, hg, hy]
  unfold wpStill
  rw [if_neg (by simp [hw]), ho]
  exact k _ (ha.put undef (Nat.le_of_ble_eq_true hd))
theorem WS.call {K : Act → Prop} {f : FuncId} {args : List Operand} {vs : List Value} {ts : Array TypeId} (hf : callable P f = true) (ha : evs l args = some vs) (hd : Nat.blt d n.tmps = true) (hc : Calls P f vs.toArray w fun e w' => e = .returned v ∧ w = w')
    (k : WS P n ops w K rest ((d, v) :: l)) :
    WS P n ops w K (⟨some d, .call { callee := .value (.func f), args := args.toArray, argTypes := ts }, ty, pos, af, none⟩ :: rest) l := fun a hag => by
  have ha' := evs_map hag.agr ha
  have hrun : (execOp a.eval ⟨some d, .call { callee := .value (.func f), args := args.toArray, argTypes := ts }, ty, pos, af, none⟩).run P w = .ok (.enter f vs.toArray) w := by
    simp [execOp, resolve, Act.eval, Deferred.ofValue, invoke, ha', run_callFunc hf]
  unfold wpStill
  rw [if_pos (by simp [Region.wanted])]
  unfold Oper.still
  rw [hrun]
  exact ⟨rfl, v, hc.mono fun e w' ⟨h1, h2⟩ => ⟨h1, h2.symm⟩, k _ (hag.put v (Nat.le_of_ble_eq_true hd))⟩
theorem WS.callv {K : Act → Prop} {x : Operand} {f : FuncId} {cap : List Value} {args : List Operand} {vs : List Value} {ts : Array TypeId} (hx : ev l x = some (.func (.func f) #[] cap.toArray)) (hf : callable P f = true) (ha : evs l args = some vs) (hd : Nat.blt d n.tmps = true) (hc : Calls P f (vs ++ cap).toArray w fun e w' => e = .returned v ∧ w = w')
    (k : WS P n ops w K rest ((d, v) :: l)) :
    WS P n ops w K (⟨some d, .call { callee := .value x, args := args.toArray, argTypes := ts }, ty, pos, af, none⟩ :: rest) l := fun a hag => by
  have ha' := evs_map hag.agr ha
  have hx' := hag.eval hx
  have hrun : (execOp a.eval ⟨some d, .call { callee := .value x, args := args.toArray, argTypes := ts }, ty, pos, af, none⟩).run P w = .ok (.enter f (vs ++ cap).toArray) w := by
    simp [execOp, resolve, hx', Deferred.ofValue, invoke, ha', run_callFunc hf]
  unfold wpStill
  rw [if_pos (by simp [Region.wanted])]
  unfold Oper.still
  rw [hrun]
  exact ⟨rfl, v, hc.mono fun e w' ⟨h1, h2⟩ => ⟨h1, h2.symm⟩, k _ (hag.put v (Nat.le_of_ble_eq_true hd))⟩
-- starts
theorem ST.one {b : Nat} {t : TypeId} {cs : List Value} (h : Bk w b t cs) (hM : M b) : ST w M w [.blk b t cs] :=
  ⟨.refl _, by simpa [Ent.ok] using h, by simp [Ent.block]; exact .inr hM, by simp⟩
theorem ST.both {e f : Ent} (h1 : e.ok w) (h2 : f.ok w) (hM : ∀ b, e.block = some b → M b) (hN : ∀ b, f.block = some b → M b) (hs : ∀ b, e.block = some b → f.block ≠ some b) : ST w M w [e, f] :=
  ⟨.refl _, by simp [h1, h2], by
    intro x hx b hb
    simp at hx
    rcases hx with rfl | rfl
    · exact .inr (hM b hb)
    · exact .inr (hN b hb), by simp; exact hs⟩
theorem ST.bk {k b : Nat} {t : TypeId} {cs : List Value} (h : ST w0 M w hp) (hk : hp[k]? = some (.blk b t cs)) : Bk w b t cs := h.at_ hk
theorem ST.rw_ {k : Nat} {t : TypeId} {sz : Nat} {xs : List Value} (h : ST w0 M w hp) (hk : hp[k]? = some (.row v t sz xs)) : Rw w v t sz xs := h.at_ hk
end
end Go.Eng
namespace Go.Eng
open Go Go.RowKit
section
variable {P : Program} {n : Md} {w w' w0 : World} {M : Nat → Prop} {hp : List Ent}
theorem Rs.at_ {A : Option Addr} {n c sz : Nat} {xs : List Value} (h : Rs w (.slice A n c) sz xs) (hne : 0 < xs.length) : ∃ b o, A = some ⟨b, o, none⟩ ∧ xs.length = n * sz ∧ n ≤ c ∧ c ≤ maxLen ∧ ∀ j u, xs[j]? = some u → w.cell? ⟨b, o + j, none⟩ = some u := by
  obtain ⟨A', n', c', he, h1, h2, h3, h4⟩ := h
  injection he with e1 e2 e3; subst e1; subst e2; subst e3
  rcases h4 with rfl | ⟨b, o, rfl, h4⟩
  · simp at hne
  · exact ⟨b, o, rfl, h3, h1, h2, h4⟩
theorem Rs.len {A : Option Addr} {n c sz : Nat} {xs : List Value} (h : Rs w (.slice A n c) sz xs) : xs.length = n * sz ∧ n ≤ c ∧ c ≤ maxLen := by
  obtain ⟨A', n', c', he, h1, h2, h3, _⟩ := h
  injection he with e1 e2 e3; subst e1; subst e2; subst e3
  exact ⟨h3, h1, h2⟩
theorem ST.updB {k b : Nat} {t : TypeId} {cs cs' : List Value} (h : ST w0 M w hp) (hk : hp[k]? = some (.blk b t cs)) (hf : Fr (fun x => x = b) w w') (hB : Bk w' b t cs') : ST w0 M w' (hp.set k (.blk b t cs')) :=
  h.upd hk (hf.mono fun i _ hi => by simp only [Ent.block]; rw [hi]) hB (fun _ h => .inl h)
theorem ST.updR {k sz : Nat} {t : TypeId} {v v' : Value} {xs xs' : List Value} (h : ST w0 M w hp) (hk : hp[k]? = some (.row v t sz xs)) (hf : Fr (fun x => v.ownBlock = some x) w w') (hB : Rw w' v' t sz xs') (hb : ∀ b, v'.ownBlock = some b → v.ownBlock = some b ∨ w.heap.size ≤ b) : ST w0 M w' (hp.set k (.row v' t sz xs')) :=
  h.upd hk hf hB hb
theorem ST.erase (h : ST w0 M w hp) (k : Nat) : ST w0 M w (hp.eraseIdx k) :=
  ⟨h.fr, fun e he => h.ok e (List.mem_of_mem_eraseIdx he), fun e he => h.own e (List.mem_of_mem_eraseIdx he), h.sep.sublist (List.eraseIdx_sublist hp k)⟩
theorem Bk.ne {b c : Nat} {t u : TypeId} {cs ds : List Value} (h : Bk w b t cs) (k : Bk w c u ds) (hne : t ≠ u) : b ≠ c := by
  rintro rfl
  obtain ⟨f, h, _⟩ := h
  obtain ⟨g, k, _⟩ := k
  rw [h] at k
  injection k with k
  injection k with _ e
  exact hne e
theorem Rw.ne {b sz : Nat} {t u : TypeId} {v : Value} {xs ds : List Value} (h : Rw w v t sz xs) (k : Bk w b u ds) (hne : t ≠ u) : v.ownBlock ≠ some b := by
  rcases h with ⟨rfl, _⟩ | ⟨g, n, cap, sp, rfl, hk, _⟩
  · simp [Value.ownBlock]
  · intro he
    have : g = b := by simpa [Value.ownBlock] using he
    exact hk.ne k hne this
/-- Bytes as cells. -/
def bs8 (l : List UInt8) : List Value := l.map b8
theorem bs8_len (l : List UInt8) : (bs8 l).length = l.length := by simp [bs8]
theorem bs8_at {l : List UInt8} {j : Nat} (h : j < l.length) : (bs8 l)[j]? = some (b8 l[j]) := by simp [bs8, h]
theorem bs8_app (l m : List UInt8) : bs8 (l ++ m) = bs8 l ++ bs8 m := by simp [bs8]
theorem bs8_one {l : List UInt8} : ∀ u ∈ bs8 l, u.oneCell' = true := by simp [bs8, Value.oneCell']
theorem bs8_set (l : List UInt8) (k : Nat) (v : UInt8) : (bs8 l).set k (b8 v) = bs8 (l.set k v) := by simp [bs8, List.map_set]
theorem bs8_snoc (l : List UInt8) (c : UInt8) : bs8 l ++ [b8 c] = bs8 (l ++ [c]) := by simp [bs8]
theorem bs8_nil : bs8 [] = [] := rfl
theorem Rw.form8 {v : Value} {t : TypeId} {l : List UInt8} (h : Rw w v t 1 (bs8 l)) (hne : 0 < l.length) : ∃ g m cap, v = .slice (some ⟨g, 0, none⟩) m cap ∧ m = l.length ∧ m ≤ cap ∧ cap ≤ maxLen := by
  rcases h with ⟨_, h⟩ | ⟨g, m, cap, sp, rfl, hk, h1, h2, h3, h4⟩
  · have := congrArg List.length h; rw [bs8_len] at this; simp at this; simp [this] at hne
  · exact ⟨g, m, cap, rfl, by rw [bs8_len] at h1; omega, h2, h3⟩
theorem Rw.anyForm {v : Value} {t : TypeId} {sz : Nat} {xs : List Value} (h : Rw w v t sz xs) : ∃ A m cap, v = .slice A m cap ∧ xs.length = m * sz ∧ m ≤ cap ∧ cap ≤ maxLen := by
  rcases h with ⟨rfl, rfl⟩ | ⟨g, m, cap, sp, rfl, hk, h1, h2, h3, h4⟩
  · exact ⟨none, 0, 0, rfl, by simp, Nat.le_refl _, by simp [maxLen]⟩
  · exact ⟨_, m, cap, rfl, h1, h2, h3⟩
/-- A row cut to nothing. -/
theorem Rw.cut0 {A : Option Addr} {m c sz : Nat} {t : TypeId} {xs : List Value} (h : Rw w (.slice A m c) t sz xs) : Rw w (.slice A 0 c) t sz [] := by
  rcases h with ⟨he, _⟩ | ⟨g, m', cap, sp, he, hk, h1, h2, h3, h4⟩
  · injection he with e1 e2 e3; subst e1; subst e3; exact .inl ⟨rfl, rfl⟩
  · injection he with e1 e2 e3; subst e1; subst e2; subst e3
    exact .inr ⟨g, 0, c, xs ++ sp, rfl, hk, by simp, Nat.zero_le _, h3, h4⟩
theorem ST.cut0 {k m c sz : Nat} {A : Option Addr} {t : TypeId} {xs : List Value} (h : ST w0 M w hp) (hk : hp[k]? = some (.row (.slice A m c) t sz xs)) : ST w0 M w (hp.set k (.row (.slice A 0 c) t sz [])) :=
  h.upd hk (.refl _) (Rw.cut0 (h.at_ hk)) (fun b hb => .inl (by cases A with
    | none => simp [Ent.block, Value.ownBlock] at hb
    | some a => simpa [Ent.block, Value.ownBlock] using hb))
theorem ST.sep' (h : ST w0 M w hp) {i j : Nat} {e f : Ent} (hi : hp[i]? = some e) (hj : hp[j]? = some f) (hij : i < j) {b : Nat} (hb : e.block = some b) : f.block ≠ some b := by
  have hil := getElem?_lt hi
  have hjl := getElem?_lt hj
  have := List.pairwise_iff_getElem.1 h.sep i j hil hjl hij
  rw [List.getElem?_eq_getElem hil] at hi; injection hi with hi
  rw [List.getElem?_eq_getElem hjl] at hj; injection hj with hj
  rw [hi, hj] at this
  exact this b hb
theorem ST.own' (h : ST w0 M w hp) {i : Nat} {e : Ent} (hi : hp[i]? = some e) {b : Nat} (hb : e.block = some b) : w0.heap.size ≤ b ∨ M b := h.own e (List.mem_of_getElem? hi) b hb
/-- Several entries turned at once. -/
theorem ST.gen {hp' : List Ent} {N : Nat → Prop} (h : ST w0 M w hp) (hl : hp'.length = hp.length) (hf : Fr N w w') (hN : ∀ b, N b → ∃ e ∈ hp, e.block = some b)
    (hok : ∀ (k : Nat) (hk : k < hp.length) (hk' : k < hp'.length), (hp'[k] = hp[k] ∧ ∀ b, hp[k].block = some b → ¬ N b) ∨ hp'[k].ok w')
    (hbl : ∀ (k : Nat) (hk : k < hp.length) (hk' : k < hp'.length) (b : Nat), hp'[k].block = some b → hp[k].block = some b ∨ w.heap.size ≤ b)
    (hnew : ∀ (i j : Nat) (hi : i < hp'.length) (hj : j < hp'.length), i < j → ∀ b, w.heap.size ≤ b → hp'[i].block = some b → hp'[j].block ≠ some b) : ST w0 M w' hp' := by
  have hpw := List.pairwise_iff_getElem.1 h.sep
  refine ⟨h.fr.trans hf (fun i hi hn => ?_), ?_, ?_, ?_⟩
  · obtain ⟨e, he, hb⟩ := hN i hn
    rcases h.own e he i hb with h1 | h1
    · omega
    · exact h1
  · intro x hx
    obtain ⟨k, hk, rfl⟩ := List.getElem_of_mem hx
    have hk' : k < hp.length := by omega
    rcases hok k hk' hk with ⟨h1, h2⟩ | h1
    · rw [h1]; exact Ent.fr (h.ok _ (List.getElem_mem hk')) hf h2
    · exact h1
  · intro x hx b hxb
    obtain ⟨k, hk, rfl⟩ := List.getElem_of_mem hx
    have hk' : k < hp.length := by omega
    rcases hbl k hk' hk b hxb with h1 | h1
    · exact h.own _ (List.getElem_mem hk') b h1
    · exact .inl (Nat.le_trans h.fr.size h1)
  · refine List.pairwise_iff_getElem.2 fun i j hi hj hij b hbi hbj => ?_
    have hi' : i < hp.length := by omega
    have hj' : j < hp.length := by omega
    rcases hbl i hi' hi b hbi with h1 | h1
    · rcases hbl j hj' hj b hbj with h2 | h2
      · exact hpw i j hi' hj' hij b h1 h2
      · have := Ent.lt (h.ok _ (List.getElem_mem hi')) h1; omega
    · exact hnew i j hi hj hij b h1 hbi hbj
/-- A block and a row turned at once. -/
theorem ST.upd2 {i j b sz : Nat} {t t2 : TypeId} {cs cs' xs xs' : List Value} {v v' : Value} (h : ST w0 M w hp) (hi : hp[i]? = some (.blk b t cs)) (hj : hp[j]? = some (.row v t2 sz xs)) (hf : Fr (fun x => x = b ∨ v.ownBlock = some x) w w') (hB : Bk w' b t cs') (hR : Rw w' v' t2 sz xs')
    (hb : ∀ x, v'.ownBlock = some x → v.ownBlock = some x ∨ w.heap.size ≤ x) : ST w0 M w' ((hp.set i (.blk b t cs')).set j (.row v' t2 sz xs')) := by
  have hil := getElem?_lt hi
  have hjl := getElem?_lt hj
  rw [List.getElem?_eq_getElem hil] at hi; injection hi with hi
  rw [List.getElem?_eq_getElem hjl] at hj; injection hj with hj
  have hij : i ≠ j := by rintro rfl; rw [hi] at hj; cases hj
  have hpw := List.pairwise_iff_getElem.1 h.sep
  have apart : ∀ (a c : Nat) (ha : a < hp.length) (hc : c < hp.length), a ≠ c → ∀ b, hp[a].block = some b → hp[c].block ≠ some b := by
    intro a c ha hc hne b h1 h2
    rcases Nat.lt_or_gt_of_ne hne with h3 | h3
    · exact hpw a c ha hc h3 b h1 h2
    · exact hpw c a hc ha h3 b h2 h1
  refine h.gen (by simp) hf (fun x hx => ?_) (fun k hk hk' => ?_) (fun k hk hk' x hx => ?_) (fun a c ha hc hac x hx h1 h2 => ?_)
  · rcases hx with rfl | hx
    · exact ⟨_, List.getElem_mem hil, by rw [hi]; rfl⟩
    · exact ⟨_, List.getElem_mem hjl, by rw [hj]; exact hx⟩
  · rw [List.getElem_set]
    split
    · exact .inr hR
    · rename_i hjk
      rw [List.getElem_set]
      split
      · exact .inr hB
      · rename_i hik
        refine .inl ⟨rfl, fun x hx hN => ?_⟩
        rcases hN with rfl | hN
        · exact apart k i hk hil (fun e => hik e.symm) x hx (by rw [hi]; rfl)
        · exact apart k j hk hjl (fun e => hjk e.symm) x hx (by rw [hj]; exact hN)
  · rw [List.getElem_set] at hx
    split at hx
    · rename_i hjk; subst hjk
      rw [hj]; exact hb x hx
    · rw [List.getElem_set] at hx
      split at hx
      · rename_i hik; subst hik
        rw [hi]; exact .inl hx
      · exact .inl hx
  · have hlen : ((hp.set i (.blk b t cs')).set j (.row v' t2 sz xs')).length = hp.length := by simp
    have old : ∀ (k : Nat) (hk : k < ((hp.set i (.blk b t cs')).set j (.row v' t2 sz xs')).length), k ≠ j → ((hp.set i (.blk b t cs')).set j (.row v' t2 sz xs'))[k].block = some x → False := by
      intro k hk hkj hx2
      have hk' : k < hp.length := by omega
      rw [List.getElem_set, if_neg (fun e => hkj e.symm), List.getElem_set] at hx2
      split at hx2
      · rename_i hik; subst hik
        have : b < w.heap.size := Bk.lt (t := t) (cs := cs) (by have := h.ok _ (List.getElem_mem hil); rw [hi] at this; exact this)
        simp [Ent.block] at hx2; omega
      · have := Ent.lt (h.ok _ (List.getElem_mem hk')) hx2; omega
    by_cases haj : a = j
    · exact old c hc (by omega) h2
    · exact old a ha haj h1
theorem ST.apart (h : ST w0 M w hp) {i j : Nat} {e f : Ent} (hi : hp[i]? = some e) (hj : hp[j]? = some f) (hij : i ≠ j) {b : Nat} (hb : e.block = some b) : f.block ≠ some b := by
  rcases Nat.lt_or_gt_of_ne hij with h1 | h1
  · exact h.sep' hi hj h1 hb
  · intro h2; exact h.sep' hj hi h1 h2 hb
theorem hap {k i j b d : Nat} {t t2 t3 sz : Nat} {cs ds xs : List Value} {v : Value} (h : ST w0 M w hp) (hk : hp[k]? = some (.blk b t cs)) (hi : hp[i]? = some (.blk d t2 ds)) (hj : hp[j]? = some (.row v t3 sz xs)) (hki : k ≠ i) (hkj : k ≠ j) :
    ¬ (b = d ∨ v.ownBlock = some b) := by
  rintro (h1 | h1)
  · exact h.apart hk hi hki (b := b) rfl (by simp only [Ent.block]; rw [← h1])
  · exact h.apart hk hj hkj (b := b) rfl h1
/-- What was there when the call began is apart from what the call has of its own. -/
theorem ST.old {i : Nat} {e : Ent} (h : ST w0 No w hp) (hi : hp[i]? = some e) {b : Nat} (hb : b < w0.heap.size) : e.block ≠ some b := fun h1 => by
  rcases h.own' hi h1 with h2 | h2
  · omega
  · exact h2
theorem hold {i j b d : Nat} {t2 t3 sz : Nat} {ds xs : List Value} {v : Value} (h : ST w0 No w hp) (hi : hp[i]? = some (.blk d t2 ds)) (hj : hp[j]? = some (.row v t3 sz xs)) (hb : b < w0.heap.size) : ¬ (b = d ∨ v.ownBlock = some b) := by
  rintro (h1 | h1)
  · exact h.old hi hb (by simp only [Ent.block]; rw [h1])
  · exact h.old hj hb h1
theorem ST.addNil (h : ST w0 M w hp) (t : TypeId) (sz : Nat) : ST w0 M w (.row (.slice none 0 0) t sz [] :: hp) :=
  h.add (.refl _) (.inl ⟨rfl, rfl⟩) (fun b hb => by simp [Ent.block, Value.ownBlock] at hb)
/-- A slice of byte slices that is read. -/
def RsL (w : World) (v : Value) (ls : List (List UInt8)) : Prop := ∃ vs, Rs w v 1 vs ∧ vs.length = ls.length ∧ ∀ i (hi : i < vs.length) (hj : i < ls.length), Rs w vs[i] 1 (bs8 ls[i])
theorem RsL.fr {N : Nat → Prop} {v : Value} {ls : List (List UInt8)} (h : RsL w v ls) (hf : Fr N w w') (hN : ∀ b, b < w.heap.size → ¬ N b) : RsL w' v ls := by
  obtain ⟨vs, h1, h2, h3⟩ := h
  have key : ∀ {v : Value} {xs : List Value}, Rs w v 1 xs → Rs w' v 1 xs := by
    intro v xs h
    obtain ⟨A, m, c, rfl, g1, g2, g3, g4⟩ := h
    refine ⟨A, m, c, rfl, g1, g2, g3, ?_⟩
    rcases g4 with g4 | ⟨b, o, rfl, g4⟩
    · exact .inl g4
    · refine .inr ⟨b, o, rfl, fun j u hu => hf.cellS (g4 j u hu) (hN b (World.block_lt_of_cell? w _ (g4 j u hu)))⟩
  exact ⟨vs, key h1, h2, fun i hi hj => key (h3 i hi hj)⟩
theorem Rs.keep {N : Nat → Prop} {v : Value} {sz : Nat} {xs : List Value} (h : Rs w v sz xs) (hf : Fr N w w') (hN : ∀ b, b < w.heap.size → ¬ N b) : Rs w' v sz xs := by
  obtain ⟨A, m, c, rfl, g1, g2, g3, g4⟩ := h
  refine ⟨A, m, c, rfl, g1, g2, g3, ?_⟩
  rcases g4 with g4 | ⟨b, o, rfl, g4⟩
  · exact .inl g4
  · refine .inr ⟨b, o, rfl, fun j u hu => hf.cellS (g4 j u hu) (hN b (World.block_lt_of_cell? w _ (g4 j u hu)))⟩
theorem Rs.blkLt {A : Option Addr} {n c sz : Nat} {xs : List Value} (h : Rs w (.slice A n c) sz xs) (hne : 0 < xs.length) : ∀ a, A = some a → a.block < w.heap.size := by
  intro a ha
  obtain ⟨b, o, rfl, _, _, _, h4⟩ := h.at_ hne
  injection ha with ha; subst ha
  exact World.block_lt_of_cell? w _ (h4 0 _ (List.getElem?_eq_getElem hne))
end
end Go.Eng
namespace Go.Eng
open Go Go.RowKit
section
variable {P : Program} {n : Md} {ops : Array Oper} {Q : QT} {rest : List Oper} {l : Env} {w w0 : World} {M : Nat → Prop} {hp : List Ent} {d : Nat} {ty : TypeId} {pos : String} {af : Array Edge} {v : Value} {T U : TypeId} {x y z : Operand}
theorem lkF {t : Nat} {p : Prop} [Decidable p] (h : lk l t = some (.bool (decide p))) (hp : ¬ p) : lk l t = some (.bool false) := by rw [h, decide_eq_false hp]
theorem lkT {t : Nat} {p : Prop} [Decidable p] (h : lk l t = some (.bool (decide p))) (hp : p) : lk l t = some (.bool true) := by rw [h, decide_eq_true hp]
theorem lkB {t : Nat} {a b : Bool} (h : lk l t = some (.bool a)) (hp : a = b) : lk l t = some (.bool b) := by rw [h, hp]
theorem pv_pickT {c x y : Operand} {t : Bool} (hc : ev l c = some (.bool t)) (ht : t = true) (hx : ev l x = some v) : PV P l ⟨some d, .pick c x y, ty, pos, af, none⟩ v := by
  subst ht; exact pv_pick hc (by simpa using hx)
theorem pv_pickF {c x y : Operand} {t : Bool} (hc : ev l c = some (.bool t)) (ht : t = false) (hx : ev l y = some v) : PV P l ⟨some d, .pick c x y, ty, pos, af, none⟩ v := by
  subst ht; exact pv_pick hc (by simpa using hx)
theorem pv_pick1 {t : Nat} {x y : Operand} (hc : lk l t = some (.bool true)) (hx : ev l x = some v) : PV P l ⟨some d, .pick (.tmp t) x y, ty, pos, af, none⟩ v := pv_pick hc (by simpa using hx)
theorem pv_pick0 {t : Nat} {x y : Operand} (hc : lk l t = some (.bool false)) (hx : ev l y = some v) : PV P l ⟨some d, .pick (.tmp t) x y, ty, pos, af, none⟩ v := pv_pick hc (by simpa using hx)
theorem udiv_wrap (k : IntKind) (hk : k.signed = false) (a b : Nat) (ha : a < 2 ^ k.bits) : k.wrap ((a : Int).tdiv b) = ((a / b : Nat) : Int) := by
  rw [Int.tdiv_eq_ediv_of_nonneg (by omega), ← Int.natCast_ediv, wrap_u_nat k hk, Nat.mod_eq_of_lt (Nat.lt_of_le_of_lt (Nat.div_le_self a b) ha)]
theorem pv_quo64u {a b : UInt64} (hx : ev l x = some (w64 a)) (hy : ev l y = some (w64 b)) (hb : ¬ b.toNat = 0) : PV P l ⟨some d, .binOp .quo T x y U, ty, pos, af, none⟩ (w64 (a / b)) := pv_bin hx hy fun w => by
  have hb' : ¬ ((b.toNat : Int) = 0) := by omega
  simp only [binOp, Op.intDiv, ne_eq, not_true, if_false, hb']
  rw [udiv_wrap .u64 rfl _ _ a.toNat_lt, ← UInt64.toNat_div]; rfl
theorem pv_rem64u {a b : UInt64} (hx : ev l x = some (w64 a)) (hy : ev l y = some (w64 b)) (hb : ¬ b.toNat = 0) : PV P l ⟨some d, .binOp .rem T x y U, ty, pos, af, none⟩ (w64 (a % b)) := pv_bin hx hy fun w => by
  have hb' : ¬ ((b.toNat : Int) = 0) := by omega
  simp only [binOp, Op.intDiv, ne_eq, not_true, if_false, hb']
  rw [Int.tmod_eq_emod_of_nonneg (by omega), ← Int.natCast_emod, ← UInt64.toNat_mod]; rfl
theorem pv_addStr {a b : ByteArray} (hx : ev l x = some (.string a)) (hy : ev l y = some (.string b)) (h : a.size + b.size ≤ 9223372036854775807) : PV P l ⟨some d, .binOp .add T x y U, ty, pos, af, none⟩ (.string (a ++ b)) := ⟨rfl, fun ρ hρ w => by
  simp only [execOp, hρ _ _ hx, hρ _ _ hy, eqGuard, binOp, Op.stringOp]
  simp
  try omega⟩
theorem pv_eqlStr {a b : ByteArray} (hx : ev l x = some (.string a)) (hy : ev l y = some (.string b)) : PV P l ⟨some d, .binOp .eql T x y U, ty, pos, af, none⟩ (.bool (a.toList == b.toList)) := ⟨rfl, fun ρ hρ w => by
  simp only [execOp, hρ _ _ hx, hρ _ _ hy, eqGuard, binOp, Op.stringOp]
  simp⟩
theorem pv_neqStr {a b : ByteArray} (hx : ev l x = some (.string a)) (hy : ev l y = some (.string b)) : PV P l ⟨some d, .binOp .neq T x y U, ty, pos, af, none⟩ (.bool !(a.toList == b.toList)) := ⟨rfl, fun ρ hρ w => by
  simp only [execOp, hρ _ _ hx, hρ _ _ hy, eqGuard, binOp, Op.stringOp]
  simp⟩
theorem QN.retK {fn : Func} {R : Ending → World → Prop} {t T b k : Nat} {tt : TypeId} {cs : List Value} (hr : fn.results = #[.cell t T]) (hv : lk l t = some (.pointer (some ⟨b, 0, none⟩))) (hS : ST w0 M w hp) (hk : hp[k]? = some (.blk b tt cs)) (hT : aggT P T = some cs.length) (h : R (.returned (.agg cs.toArray)) w) (hds : n.ds = [] := by rfl) :
    QN n (bodyPost P fn R) .ret l w := QN.retC hr hv hT (fun j u hu => by rw [Nat.zero_add]; exact hS.cell hk hu) h hds
theorem QN.retKT {fn : Func} {R : Ending → World → Prop} {t T b k u : Nat} {tt : TypeId} {cs : List Value} (hr : fn.results = #[.cell t T, .tmp u]) (hv : lk l t = some (.pointer (some ⟨b, 0, none⟩))) (hS : ST w0 M w hp) (hk : hp[k]? = some (.blk b tt cs)) (hT : aggT P T = some cs.length) (hx : lk l u = some v) (h : R (.returned (.tuple #[.agg cs.toArray, v])) w) (hds : n.ds = [] := by rfl) :
    QN n (bodyPost P fn R) .ret l w := QN.retCT hr hv hT (fun j u hu => by rw [Nat.zero_add]; exact hS.cell hk hu) hx h hds
theorem QN.retKK {fn : Func} {R : Ending → World → Prop} {t T b k t' T' b' k' : Nat} {tt tt' : TypeId} {cs cs' : List Value} (hr : fn.results = #[.cell t T, .cell t' T']) (hv : lk l t = some (.pointer (some ⟨b, 0, none⟩))) (hv' : lk l t' = some (.pointer (some ⟨b', 0, none⟩))) (hS : ST w0 M w hp) (hk : hp[k]? = some (.blk b tt cs)) (hk' : hp[k']? = some (.blk b' tt' cs')) (hT : aggT P T = some cs.length) (hT' : aggT P T' = some cs'.length) (h : R (.returned (.tuple #[.agg cs.toArray, .agg cs'.toArray])) w) (hds : n.ds = [] := by rfl) :
    QN n (bodyPost P fn R) .ret l w := QN.retCC hr hv hT (fun j u hu => by rw [Nat.zero_add]; exact hS.cell hk hu) hv' hT' (fun j u hu => by rw [Nat.zero_add]; exact hS.cell hk' hu) h hds
theorem QN.ret3 {fn : Func} {R : Ending → World → Prop} {t u s : Nat} {x y : Value} (hr : fn.results = #[.tmp t, .tmp u, .tmp s]) (hv : lk l t = some v) (hx : lk l u = some x) (hy : lk l s = some y) (h : R (.returned (.tuple #[v, x, y])) w) (hds : n.ds = [] := by rfl) : QN n (bodyPost P fn R) .ret l w := fun a ha =>
  bodyPost_ret (v := .tuple #[v, x, y]) (by have h1 := ha.at_ t v hv; have h2 := ha.at_ u x hx; have h3 := ha.at_ s y hy; simp [results, hr, Array.getD_eq_getD_getElem?, h1, h2, h3]) (ha.defers.trans hds) h
end
end Go.Eng
namespace Go.Eng
open Go Go.RowKit
section
variable {P : Program} {n : Md} {w w' w0 : World} {M : Nat → Prop} {hp : List Ent}
/-- 32-bit words as cells. -/
def ws (l : List UInt32) : List Value := l.map w32
theorem ws_len (l : List UInt32) : (ws l).length = l.length := by simp [ws]
theorem ws_at {l : List UInt32} {j : Nat} (h : j < l.length) : (ws l)[j]? = some (w32 l[j]) := by simp [ws, h]
theorem ws_app (l m : List UInt32) : ws (l ++ m) = ws l ++ ws m := by simp [ws]
theorem ws_one {l : List UInt32} : ∀ u ∈ ws l, u.oneCell' = true := by simp [ws, Value.oneCell']
theorem ws_snoc (l : List UInt32) (c : UInt32) : ws l ++ [w32 c] = ws (l ++ [c]) := by simp [ws]
theorem ws_nil : ws [] = [] := rfl
theorem Rw.formW {w : World} {v : Value} {t : TypeId} {l : List UInt32} (h : Rw w v t 1 (ws l)) (hne : 0 < l.length) : ∃ g m cap, v = .slice (some ⟨g, 0, none⟩) m cap ∧ m = l.length ∧ m ≤ cap ∧ cap ≤ maxLen := by
  rcases h with ⟨_, h⟩ | ⟨g, m, cap, sp, rfl, hk, h1, h2, h3, h4⟩
  · have := congrArg List.length h; rw [ws_len] at this; simp at this; simp [this] at hne
  · exact ⟨g, m, cap, rfl, by rw [ws_len] at h1; omega, h2, h3⟩
theorem Bk.toRw {b m sz : Nat} {t : TypeId} {cs : List Value} (h : Bk w b t cs) (hl : cs.length = m * sz) (hm : m ≤ maxLen) : Rw w (.slice (some ⟨b, 0, none⟩) m m) t sz cs :=
  .inr ⟨b, m, m, [], rfl, by simpa using h, hl, Nat.le_refl _, hm, by simpa using hl⟩
theorem ST.toRow {k b m sz : Nat} {t : TypeId} {cs : List Value} (h : ST w0 M w hp) (hk : hp[k]? = some (.blk b t cs)) (hl : cs.length = m * sz) (hm : m ≤ maxLen) : ST w0 M w (hp.set k (.row (.slice (some ⟨b, 0, none⟩) m m) t sz cs)) :=
  h.upd hk (.refl _) (Bk.toRw (h.at_ hk) hl hm) (fun b hb => .inl (by simpa [Ent.block, Value.ownBlock] using hb))
theorem ws_atD {l : List UInt32} {j : Nat} (h : j < l.length) : (ws l)[j]? = some (w32 (l.getD j 0)) := by simp [ws, h, List.getD]
/-- A part of a slice that is read. -/
theorem Rs.cut {A : Option Addr} {m c sz a b : Nat} {xs : List Value} (h : Rs w (.slice A m c) sz xs) (hab : a ≤ b) (hbm : b ≤ m) : Rs w (.slice (if c = a then A else A.map (·.add (a * sz))) (b - a) (c - a)) sz ((xs.drop (a * sz)).take ((b - a) * sz)) := by
  obtain ⟨A', m', c', he, h1, h2, h3, h4⟩ := h
  injection he with e1 e2 e3; subst e1; subst e2; subst e3
  have hz : b * sz ≤ m * sz := Nat.mul_le_mul_right _ hbm
  have hz2 : a * sz ≤ b * sz := Nat.mul_le_mul_right _ hab
  have hl : ((xs.drop (a * sz)).take ((b - a) * sz)).length = (b - a) * sz := by
    rw [List.length_take, List.length_drop, h3, Nat.sub_mul]; omega
  refine ⟨_, _, _, rfl, by omega, by omega, hl, ?_⟩
  rcases h4 with rfl | ⟨g, o, rfl, h4⟩
  · exact .inl (by simp)
  · by_cases hca : c = a
    · refine .inl (List.eq_nil_of_length_eq_zero (by rw [hl, show b - a = 0 from by omega, Nat.zero_mul]))
    · refine .inr ⟨g, o + a * sz, by
        rw [if_neg hca]; simp only [Option.map, Addr.add]
        by_cases h0 : a * sz = 0
        · rw [if_pos h0, h0]; rfl
        · rw [if_neg h0], fun j u hu => ?_⟩
      rw [List.getElem?_take, List.getElem?_drop] at hu
      split at hu
      · rw [Nat.add_assoc]; exact h4 _ u hu
      · simp at hu
theorem Rs.cutH {A : Option Addr} {m c b : Nat} {xs : List Value} (h : Rs w (.slice A m c) 1 xs) (hbm : b ≤ m) : Rs w (.slice A b c) 1 (xs.take b) := by
  have hl := h.len
  obtain ⟨A', m', c', he, h1, h2, h3, h4⟩ := h
  injection he with e1 e2 e3; subst e1; subst e2; subst e3
  refine ⟨_, _, _, rfl, by omega, by omega, by rw [List.length_take]; omega, ?_⟩
  rcases h4 with rfl | ⟨g, o, rfl, h4⟩
  · exact .inl (by simp)
  · refine .inr ⟨g, o, rfl, fun j u hu => ?_⟩
    rw [List.getElem?_take] at hu
    split at hu
    · exact h4 _ u hu
    · simp at hu
theorem ST.rcell {k g m c : Nat} {t : TypeId} {xs : List Value} (h : ST w0 M w hp) (hk : hp[k]? = some (.row (.slice (some ⟨g, 0, none⟩) m c) t 1 xs)) {j : Nat} {u : Value} (hu : xs[j]? = some u) : w.cell? ⟨g, 0 + j, none⟩ = some u := by
  have hj := getElem?_lt hu
  obtain ⟨b, o, he, _, _, _, h4⟩ := (h.rw_ hk).rs.at_ (by omega)
  injection he with he; injection he with e1 e2; subst e1; subst e2
  exact h4 j u hu
variable {l : Env} {v : Value} {d : Nat} {ty : TypeId} {pos : String} {af : Array Edge} {T U : TypeId} {x y z : Operand}
theorem pv_sliceLH {lo hi : Option Operand} {vl vh : Option Value} {A : Option Addr} {len cap e sz by_ a b : Nat} (hT : slT P T = some (e, sz, by_)) (hx : ev l x = some (.slice A len cap))
    (hl : optv l lo = some vl) (hh : optv l hi = some vh) (nl : bnd 0 vl = some (a : Int)) (nh : bnd len vh = some (b : Int)) (hab : a ≤ b) (hbc : b ≤ cap) :
    PV P l ⟨some d, .slice T x lo hi none, ty, pos, af, none⟩ (.slice (if cap = a then A else A.map (·.add (a * sz))) (b - a) (cap - a)) :=
  pv_sliceS (mx := none) (c := cap) hT hx hl hh rfl nl nh rfl (by simp) hab hbc (Nat.le_refl _)
end
end Go.Eng
namespace Go.Eng
open Go Go.RowKit
section
variable {P : Program} {n : Md} {ops : Array Oper} {Q : QT} {rest : List Oper} {l : Env} {w w' w0 : World} {M : Nat → Prop} {hp : List Ent} {d : Nat} {ty : TypeId} {pos : String} {af : Array Edge} {v : Value} {T U : TypeId} {x y z : Operand}
theorem Fr.freeze {M : Nat → Prop} (w : World) (a : Addr) (n : Nat) (hM : M a.block) : Fr M w (w.freeze a n) := by
  unfold World.freeze
  split
  · exact .refl _
  · refine ⟨rfl, rfl, rfl, by simp, fun k hk hn => ?_⟩
    simp only [Array.getElem?_modify]
    rw [if_neg (fun e : a.block = k => hn (by rw [← e]; exact hM))]
theorem Bk.freeze {b : Nat} {t : TypeId} {cs : List Value} (h : Bk w b t cs) : Bk (w.freeze ⟨b, cs.length, none⟩ 1) b t cs := by
  obtain ⟨⟨lo, hi⟩, h, hz⟩ := h
  unfold World.freeze
  rw [if_neg (by decide)]
  refine ⟨if lo == hi then (cs.length, cs.length + 1) else (min lo cs.length, max hi (cs.length + 1)), ?_, ?_⟩
  · simp only [Array.getElem?_modify, if_pos, h, Option.map_some]
  · split
    · exact .inr (Nat.le_refl _)
    · rename_i hne
      rcases hz with hz | hz
      · injection hz with h1 h2; subst h1; subst h2; simp at hne
      · exact .inr (by simp only at hz ⊢; omega)
theorem run_convS {b o m c : Nat} {e t : TypeId} {cs : List Value} (hT : P.underlying T = some (.slice e)) (he : P.underlying e = some (.int .u8)) (h : Bk w b t cs) :
    (convert T T (.slice (some ⟨b, o, none⟩) m c)).run P w = .ok (.slice (some ⟨b, o, none⟩) m c) (w.freeze ⟨b, cs.length, none⟩ 1) := by
  obtain ⟨fz, hh, _⟩ := h
  have hsh : w.shape? b = some (t, cs.length) := by unfold World.shape?; rw [hh]; simp
  simp [convert, run_underlying hT, run_underlying he, markStringish, hsh]
/-- Bytes made of a literal text. -/
theorem WL.convS {k b o m c : Nat} {e t : TypeId} {cs : List Value} (hS : ST w0 M w hp) (hT : P.underlying T = some (.slice e)) (he : P.underlying e = some (.int .u8)) (hk : hp[k]? = some (.blk b t cs)) (hx : ev l x = some (.slice (some ⟨b, o, none⟩) m c)) (hd : Nat.blt d n.tmps = true)
    (K : ∀ w', ST w0 M w' hp → WL P n ops Q rest ((d, .slice (some ⟨b, o, none⟩) m c) :: l) w') :
    WL P n ops Q (⟨some d, .convert T T x, ty, pos, af, none⟩ :: rest) l w := by
  refine WL.wv (fun ρ hρ => ?_) hd (K (w.freeze ⟨b, cs.length, none⟩ 1) ?_)
  · simp [execOp, hρ _ _ hx, run_convS hT he (hS.bk hk)]
  · have := hS.upd hk (w' := w.freeze ⟨b, cs.length, none⟩ 1) (e' := .blk b t cs) (Fr.freeze w _ 1 rfl) (hS.bk hk).freeze (fun _ h => .inl h)
    rwa [show hp.set k (.blk b t cs) = hp from by
      apply List.ext_getElem?
      intro i
      rw [List.getElem?_set]
      split
      · rename_i hi; subst hi; rw [if_pos (getElem?_lt hk)]; exact hk.symm
      · rfl] at this
/-- Bytes out of a string. -/
theorem WL.convStr {S e : TypeId} {s : ByteArray} (hS : ST w0 M w hp) (hs : P.underlying S = some .string) (hT : P.underlying T = some (.slice e)) (he : P.underlying e = some (.int .u8)) (hx : ev l x = some (.string s)) (hlen : s.size ≤ maxLen) (hd : Nat.blt d n.tmps = true)
    (K : ∀ v w', (∀ b, v.ownBlock = some b → w0.heap.size ≤ b) → ST w0 M w' (.row v e 1 (bs8 s.data.toList) :: hp) → WL P n ops Q rest ((d, v) :: l) w') :
    WL P n ops Q (⟨some d, .convert S T x, ty, pos, af, none⟩ :: rest) l w := by
  have hge : s.size ≤ grownCap w s.size 0 e := grownCap_ge w s.size 0 e
  have hcm : grownCap w s.size 0 e ≤ maxLen := grownCap_le_maxLen w s.size 0 e hlen
  have hbr : bytesRow s (grownCap w s.size 0 e) = (bs8 s.data.toList ++ List.replicate (grownCap w s.size 0 e - s.size) (b8 0)).toArray := by
    apply Array.ext'
    simp [bytesRow, bs8, b8]
  have hl : (bytesRow s (grownCap w s.size 0 e)).size = grownCap w s.size 0 e := by
    rw [hbr]; simp [bs8_len]; exact Nat.add_sub_cancel' hge
  refine WL.wv (fun ρ hρ => ?_) hd (K (.slice (some ⟨w.heap.size, 0, none⟩) s.size (grownCap w s.size 0 e)) (w.drew.alloc (.cells (bytesRow s (grownCap w s.size 0 e)) e ((bytesRow s (grownCap w s.size 0 e)).size, (bytesRow s (grownCap w s.size 0 e)).size + 1))) (fun b hb => by injection hb with hb; subst hb; exact hS.fr.size) ?_)
  · simp [execOp, hρ _ _ hx, run_bytes_of_string w S T e s hs hT he]
  · refine hS.add ((Fr.drew w).trans (Fr.alloc w.drew _) (fun _ _ h => h)) ?_ (fun b hb => by simp [Ent.block, Value.ownBlock] at hb; omega)
    refine .inr ⟨w.heap.size, s.size, grownCap w s.size 0 e, List.replicate (grownCap w s.size 0 e - s.size) (b8 0), rfl, ?_, by rw [bs8_len, Nat.mul_one]; rfl, hge, hcm, ?_⟩
    · refine ⟨((bytesRow s (grownCap w s.size 0 e)).size, (bytesRow s (grownCap w s.size 0 e)).size + 1), ?_, .inr ?_⟩
      · rw [← hbr]; exact heap_alloc_new w.drew _
      · rw [hbr]; simp
    · simp [bs8_len]
      have : s.data.size = s.size := rfl
      omega
/-- A string out of bytes. -/
theorem rv_convBytes {S e : TypeId} {A : Option Addr} {m c : Nat} {bl : List UInt8} (hs : P.underlying S = some (.slice e)) (he : P.underlying e = some (.int .u8)) (hT : P.underlying T = some .string) (hx : ev l x = some (.slice A m c)) (h : Rs w (.slice A m c) 1 (bs8 bl)) :
    RV P l w ⟨some d, .convert S T x, ty, pos, af, none⟩ (.string ⟨bl.toArray⟩) := by
  refine ⟨rfl, fun ρ hρ => ?_⟩
  obtain ⟨A', m', c', he', h1, h2, h3, h4⟩ := h
  injection he' with e1 e2 e3; subst e1; subst e2; subst e3
  have hm : m = bl.length := by rw [bs8_len] at h3; omega
  subst hm
  simp only [execOp, hρ _ _ hx]
  cases hA : A with
  | none =>
    have hbl : bl = [] := by
      rcases h4 with h4 | ⟨b, o, h4, _⟩
      · exact List.eq_nil_of_length_eq_zero (by have := congrArg List.length h4; simpa [bs8_len] using this)
      · rw [hA] at h4; cases h4
    subst hbl
    simp [convert, run_underlying hs, run_underlying he, run_underlying hT, Conv.bytesToString]
    rfl
  | some a =>
    have hc : ∀ j (hj : j < bl.length), w.cell? (a.add j) = some (.int .u8 (bl[j].toNat : Int)) := by
      intro j hj
      rcases h4 with h4 | ⟨b, o, h4, h5⟩
      · have := congrArg List.length h4; rw [bs8_len] at this; simp at this; simp [this] at hj
      · rw [hA] at h4; injection h4 with h4; subst h4
        have := h5 j _ (bs8_at hj)
        unfold Addr.add
        split
        · rename_i h0; subst h0; exact this
        · exact this
    simp [run_convert_bytes_back w S T e a c bl hs he hT hc]
/-- An empty literal of a slice. -/
theorem WL.build0 {e sz by_ : Nat} (hS : ST w0 M w hp) (hT : slT P T = some (e, sz, by_)) (hd : Nat.blt d n.tmps = true)
    (K : ∀ b w', w0.heap.size ≤ b → ST w0 M w' (.row (.slice (some ⟨b, 0, none⟩) 0 0) e sz [] :: hp) → WL P n ops Q rest ((d, .slice (some ⟨b, 0, none⟩) 0 0) :: l) w') :
    WL P n ops Q (⟨some d, .buildSlice T 0 #[], ty, pos, af, none⟩ :: rest) l w := by
  refine WL.wv (fun ρ hρ => ?_) hd (K w.heap.size (w.alloc (.cells #[] e)) hS.fr.size ?_)
  · unfold slT at hT
    cases hu : P.underlying T with
    | none => simp [hu] at hT
    | some u =>
    cases u <;> simp [hu] at hT
    obtain ⟨i, hi, rfl, rfl, rfl⟩ := hT
    simp [execOp, Instr.buildSlice, run_underlying hu, sizeOf, typeInfo, hi, Instr.fill, newRow]
    have e0 : ∀ (f : Nat → Value), Array.map f (Array.range 0) = #[] := fun f => by apply Array.ext'; simp
    rw [e0]
  · exact hS.add (.alloc w _) (Bk.toRw (Bk.new w e []) (by simp) (by simp [maxLen])) (fun b hb => by simp [Ent.block, Value.ownBlock] at hb; omega)
/-- Arrays of bytes, compared. -/
theorem run_eqItems8 {e : TypeId} (he : P.underlying e = some (.int .u8)) (a b : List UInt8) (hab : a.length = b.length) (D : Nat) : ∀ m s, s + m = a.length →
    (Op.eqItems (D + 1) e 1 (bs8 a).toArray (bs8 b).toArray (List.range' s m)).run P w = .ok (decide (a.drop s = b.drop s)) w := by
  intro m
  induction m with
  | zero =>
    intro s hs
    rw [List.drop_eq_nil_of_le (by omega), List.drop_eq_nil_of_le (by omega)]
    simp [Op.eqItems]
  | succ m ih =>
    intro s hs
    have ha : s < a.length := by omega
    have hb : s < b.length := by omega
    have p1 : (part e (bs8 a).toArray (s * 1)).run P w = .ok (b8 a[s]) w := by
      have : (bs8 a).toArray[s * 1]? = some (b8 a[s]) := by simp [bs8, ha]
      simp only [List.getElem?_toArray, Nat.mul_one] at this
      simp [part, isAgg, run_underlying he, this]
    have p2 : (part e (bs8 b).toArray (s * 1)).run P w = .ok (b8 b[s]) w := by
      have : (bs8 b).toArray[s * 1]? = some (b8 b[s]) := by simp [bs8, hb]
      simp only [List.getElem?_toArray, Nat.mul_one] at this
      simp [part, isAgg, run_underlying he, this]
    have p3 : (Op.equalIn (D + 1) e (b8 a[s]) (b8 b[s])).run P w = .ok (decide (a[s] = b[s])) w := by
      have : ((a[s].toNat : Int) == (b[s].toNat : Int)) = decide (a[s] = b[s]) := by
        by_cases h : a[s] = b[s]
        · simp [h]
        · have h' : ¬ ((a[s].toNat : Int) = (b[s].toNat : Int)) := fun h2 => h (UInt8.toNat_inj.1 (by omega))
          simp [h, h']
      simp [Op.equalIn, run_underlying he, b8, this]
    rw [List.range'_succ]
    simp only [Op.eqItems, Sem.run_bind, p1, p2, p3, Result.andThen_ok]
    rw [List.drop_eq_getElem_cons ha, List.drop_eq_getElem_cons hb]
    by_cases h : a[s] = b[s]
    · rw [if_neg (by simp [h]), ih (s + 1) (by omega)]
      congr 1
      apply decide_eq_decide.2
      rw [h]
      exact ⟨fun q => by rw [q], fun q => (List.cons.inj q).2⟩
    · rw [if_pos (by simp [h]), Sem.run_pure]
      congr 1
      exact (decide_eq_false (fun q => h (List.cons.inj q).1)).symm
theorem pv_eqlA8 {e N : TypeId} {a b : List UInt8} (hT : P.underlying T = some (.array N e)) (he : P.underlying e = some (.int .u8)) (hc : P.cellsOf e = 1) (hg : P.eqGuardType P.depth T = false) (hx : ev l x = some (.agg (bs8 a).toArray)) (hy : ev l y = some (.agg (bs8 b).toArray)) (ha : a.length = N) (hb : b.length = N) :
    PV P l ⟨some d, .binOp .eql T x y U, ty, pos, af, none⟩ (.bool (decide (a = b))) := ⟨rfl, fun ρ hρ w => by
  obtain ⟨i, hi⟩ := info_of_underlying he
  have h := run_equalIn_array w 9999 (bs8 a).toArray (bs8 b).toArray hT hi
  rw [hc, List.range_eq_range', run_eqItems8 (w := w) he a b (by omega) 9998 N 0 (by omega)] at h
  simp only [execOp, hρ _ _ hx, hρ _ _ hy, eqGuard, binOp, run_eq]
  simp [hg, h]⟩
theorem pv_neqA8 {e N : TypeId} {a b : List UInt8} (hT : P.underlying T = some (.array N e)) (he : P.underlying e = some (.int .u8)) (hc : P.cellsOf e = 1) (hg : P.eqGuardType P.depth T = false) (hx : ev l x = some (.agg (bs8 a).toArray)) (hy : ev l y = some (.agg (bs8 b).toArray)) (ha : a.length = N) (hb : b.length = N) :
    PV P l ⟨some d, .binOp .neq T x y U, ty, pos, af, none⟩ (.bool !(decide (a = b))) := ⟨rfl, fun ρ hρ w => by
  obtain ⟨i, hi⟩ := info_of_underlying he
  have h := run_equalIn_array w 9999 (bs8 a).toArray (bs8 b).toArray hT hi
  rw [hc, List.range_eq_range', run_eqItems8 (w := w) he a b (by omega) 9998 N 0 (by omega)] at h
  simp only [execOp, hρ _ _ hx, hρ _ _ hy, eqGuard, binOp, run_eq]
  simp [hg, h]⟩
end
end Go.Eng
namespace Go.Eng
open Go Go.RowKit
theorem byteOf {n : Int} (h : (Lit.int .u8 n).wf = true) : n = ((UInt8.ofNat n.toNat).toNat : Int) := by
  have h2 := Go.bounds_u8 h
  rw [UInt8.toNat_ofNat']
  omega
/-- Bytes that came in, as the frame of a law tells them. -/
theorem rs_of_row {w : World} {a : Option Addr} {len cap : Nat} {zs : List Int} (h : (a = none ∧ len = 0 ∧ cap = 0 ∧ zs = []) ∨
    ∃ x, a = some x ∧ len ≤ cap ∧ cap ≤ maxLen ∧ zs.length = cap ∧ (∀ i, i < zs.length → w.cell? (x.add i) = some (.int .u8 (zs.getD i 0))) ∧ ∀ n ∈ zs, (Lit.int .u8 n).wf = true) :
    ∃ bl, Rs w (.slice a len cap) 1 (bs8 bl) := by
  rcases h with ⟨rfl, rfl, rfl, rfl⟩ | ⟨x, rfl, h1, h2, h3, h4, h5⟩
  · exact ⟨[], none, 0, 0, rfl, Nat.le_refl _, by simp [maxLen], by simp [bs8], .inl rfl⟩
  · refine ⟨(zs.take len).map fun n => UInt8.ofNat n.toNat, some x, len, cap, rfl, h1, h2, by simp [bs8_len]; omega, ?_⟩
    by_cases h0 : 0 < zs.length
    · obtain ⟨b, off, rfl, hc⟩ := ints_at h4 h0
      refine .inr ⟨b, off, rfl, fun j u hu => ?_⟩
      have hj := getElem?_lt hu
      rw [bs8_len, List.length_map, List.length_take] at hj
      have hjz : j < zs.length := by omega
      have hb := byteOf (h5 zs[j] (List.getElem_mem hjz))
      rw [hc j hjz]
      rw [bs8_at (by simp; omega)] at hu
      rw [← hu]
      simp only [List.getElem_map, List.getElem_take, b8, List.getD_eq_getElem?_getD, List.getElem?_eq_getElem hjz, Option.getD_some]
      rw [← hb]
    · refine .inl ?_
      have : zs = [] := List.eq_nil_of_length_eq_zero (by omega)
      subst this
      simp [bs8]
end Go.Eng
namespace Go.Eng
open Go Go.RowKit Go.ChangeShapes Go.WideShapes
section
variable {H : Type} {enc : TypeId × Value → H} {P : Program} {w : World} {base : Nat}
/-- Bytes that came in. -/
theorem rs_of_trod {t e : TypeId} {fuel : Nat} {v : Value} {x : DataW H × List MemPlace} (ht : P.underlying t = some (.slice e)) (he : P.underlying e = some (.int .u8)) (hc : P.cellsOf e = 1)
    (h : DataW.trod enc P w base (fun _ => true) true fuel t [v] = some x) : ∃ bl, Rs w v 1 (bs8 bl) := by
  rcases open_ints ht he hc h with ⟨hcs, _⟩ | ⟨a, l, c, zs, hcs, _, hl, hm, hz, _, hcell, hwz⟩
  · injection hcs with hcs; subst hcs
    exact rs_of_row (zs := []) (.inl ⟨rfl, rfl, rfl, rfl⟩)
  · injection hcs with hcs; subst hcs
    exact rs_of_row (zs := zs) (.inr ⟨a, rfl, hl, hm, by simpa using hz, hcell, hwz⟩)
/-- A slice of byte slices that came in. -/
theorem rsL_of_trod {t s e : TypeId} {fuel : Nat} {v : Value} {x : DataW H × List MemPlace} (ht : P.underlying t = some (.slice s)) (hs : P.underlying s = some (.slice e)) (he : P.underlying e = some (.int .u8)) (hcs : P.cellsOf s = 1) (hc : P.cellsOf e = 1)
    (h : DataW.trod enc P w base (fun _ => true) true fuel t [v] = some x) : ∃ ls, RsL w v ls := by
  rcases Go.Deep.open_slice1 ht hcs h with ⟨hv, _⟩ | ⟨a, len, cap, m, n, V, D, Pl, hv, _, hl, hm, hmm, _, hx⟩
  · injection hv with hv; subst hv
    exact ⟨[], [], ⟨none, 0, 0, rfl, Nat.le_refl _, by simp [maxLen], by simp, .inl rfl⟩, rfl, fun i hi => by simp at hi⟩
  · injection hv with hv; subst hv
    obtain rfl : m = cap := by simpa using hmm
    have hb : ∀ i, i < len → ∃ bl, Rs w (V i) 1 (bs8 bl) := fun i hi => rs_of_trod hs he hc (hx i (by omega)).2
    obtain ⟨f, hf⟩ := Go.Deep.choose_lt (α := List UInt8) hb
    refine ⟨(List.range len).map f, (List.range len).map V, ⟨some a, len, m, rfl, hl, hm, by simp, ?_⟩, by simp, fun i hi hj => by simp at hi; simp; exact hf i hi⟩
    by_cases h0 : 0 < len
    · obtain ⟨b, off, spot⟩ := a
      have hspot : spot = none := by simpa [Addr.add] using World.cell?_spot (hx 0 (by omega)).1
      subst hspot
      refine .inr ⟨b, off, rfl, fun j u hu => ?_⟩
      have hj := getElem?_lt hu
      rw [List.length_map, List.length_range] at hj
      rw [List.getElem?_map, List.getElem?_range hj] at hu
      injection hu with hu; subst hu
      rw [← add_plain]; exact (hx j (by omega)).1
    · exact .inl (by simp; omega)
end
section
variable {P : Program} {n : Md} {w w' w0 : World} {M : Nat → Prop} {hp : List Ent} {l : Env} {v : Value} {d : Nat} {ty : TypeId} {pos : String} {af : Array Edge} {T U : TypeId} {x y z : Operand}
theorem Rs.cut8 {A : Option Addr} {m c a b : Nat} {bl : List UInt8} (h : Rs w (.slice A m c) 1 (bs8 bl)) (hab : a ≤ b) (hbm : b ≤ m) : Rs w (.slice (if c = a then A else A.map (·.add (a * 1))) (b - a) (c - a)) 1 (bs8 ((bl.drop a).take (b - a))) := by
  have := h.cut hab hbm
  rwa [show ((bs8 bl).drop (a * 1)).take ((b - a) * 1) = bs8 ((bl.drop a).take (b - a)) from by rw [Nat.mul_one, Nat.mul_one, bs8, bs8, List.map_take, List.map_drop]] at this
theorem Rs.cutH8 {A : Option Addr} {m c b : Nat} {bl : List UInt8} (h : Rs w (.slice A m c) 1 (bs8 bl)) (hbm : b ≤ m) : Rs w (.slice A b c) 1 (bs8 (bl.take b)) := by
  have := h.cutH hbm
  rwa [show (bs8 bl).take b = bs8 (bl.take b) from by rw [bs8, bs8, List.map_take]] at this
theorem pv_minN {k : IntKind} {a b : Nat} (hx : ev l x = some (.int k (a : Int))) (hy : ev l y = some (.int k (b : Int))) :
    PV P l ⟨some d, .call { callee := .builtin .min, args := #[x, y], argTypes := #[T, U] }, ty, pos, af, none⟩ (.int k ((min a b : Nat) : Int)) := by
  rw [show ((min a b : Nat) : Int) = if (b : Int) < (a : Int) then (b : Int) else (a : Int) from by omega]; exact pv_min hx hy
theorem pv_maxN {k : IntKind} {a b : Nat} (hx : ev l x = some (.int k (a : Int))) (hy : ev l y = some (.int k (b : Int))) :
    PV P l ⟨some d, .call { callee := .builtin .max, args := #[x, y], argTypes := #[T, U] }, ty, pos, af, none⟩ (.int k ((max a b : Nat) : Int)) := by
  rw [show ((max a b : Nat) : Int) = if (a : Int) < (b : Int) then (b : Int) else (a : Int) from by omega]; exact pv_max hx hy
theorem wf_u8 {a : Int} (h : (Lit.int .u8 a).wf = true) : ∃ b : UInt8, a = (b.toNat : Int) := ⟨_, byteOf h⟩
theorem wf_u16 {a : Int} (h : (Lit.int .u16 a).wf = true) : ∃ b : Nat, b < 65536 ∧ a = (b : Int) := by
  simp [Lit.wf, IntKind.min, IntKind.max, IntKind.signed, IntKind.bits] at h
  exact ⟨a.toNat, by omega, by omega⟩
theorem wf_u32 {a : Int} (h : (Lit.int .u32 a).wf = true) : ∃ b : UInt32, a = (b.toNat : Int) := by
  simp [Lit.wf, IntKind.min, IntKind.max, IntKind.signed, IntKind.bits] at h
  exact ⟨UInt32.ofNat a.toNat, by rw [UInt32.toNat_ofNat']; omega⟩
theorem wf_u64 {a : Int} (h : (Lit.int .u64 a).wf = true) : ∃ b : UInt64, a = (b.toNat : Int) := by
  simp [Lit.wf, IntKind.min, IntKind.max, IntKind.signed, IntKind.bits] at h
  exact ⟨UInt64.ofNat a.toNat, by rw [UInt64.toNat_ofNat']; omega⟩
theorem wf_i64 {a : Int} (h : (Lit.int .i64 a).wf = true) : -9223372036854775808 ≤ a ∧ a ≤ 9223372036854775807 := by
  simp [Lit.wf, IntKind.min, IntKind.max, IntKind.signed, IntKind.bits] at h
  omega
end
end Go.Eng
namespace Go.Eng
open Go Go.RowKit
section
variable {P : Program} {n : Md} {ops : Array Oper} {Q : QT} {rest : List Oper} {l : Env} {w w0 : World} {M : Nat → Prop} {hp : List Ent} {d : Nat} {ty : TypeId} {pos : String} {af : Array Edge} {v : Value} {T U : TypeId} {x y z : Operand}
/-- One of two may come up next. -/
theorem WH.two {S : World → Prop} {fuel : Nat} {listed m1 m2 : Array Bool} (i j : Nat) {o p : Oper} (hi : ops[i]? = some o) (hj : ops[j]? = some p) (hr : Region.ready .any ops listed = [i, j]) (h1 : listed.setIfInBounds i true = m1) (h2 : listed.setIfInBounds j true = m2)
    (k1 : WL P n ops (Exit.then (fun a w => S w ∧ wpAnyH P .any ops Q S fuel m1 a w) Q) [o] l w)
    (k2 : WL P n ops (Exit.then (fun a w => S w ∧ wpAnyH P .any ops Q S fuel m2 a w) Q) [p] l w) (hrd : n.rd = false := by rfl) : WH P n ops Q S (fuel + 1) listed l w := fun a ha => by
  subst h1; subst h2
  refine wpAnyH_all hr (by simp) fun q hq => ?_
  have hq' : q = i ∨ q = j := by simpa using hq
  rcases hq' with rfl | rfl
  · exact wpOp_of_WL hi hrd k1 ha
  · exact wpOp_of_WL hj hrd k2 ha
theorem WH.three {S : World → Prop} {fuel : Nat} {listed m1 m2 m3 : Array Bool} (i j g : Nat) {o p r : Oper} (hi : ops[i]? = some o) (hj : ops[j]? = some p) (hg : ops[g]? = some r) (hr : Region.ready .any ops listed = [i, j, g]) (h1 : listed.setIfInBounds i true = m1) (h2 : listed.setIfInBounds j true = m2) (h3 : listed.setIfInBounds g true = m3)
    (k1 : WL P n ops (Exit.then (fun a w => S w ∧ wpAnyH P .any ops Q S fuel m1 a w) Q) [o] l w)
    (k2 : WL P n ops (Exit.then (fun a w => S w ∧ wpAnyH P .any ops Q S fuel m2 a w) Q) [p] l w)
    (k3 : WL P n ops (Exit.then (fun a w => S w ∧ wpAnyH P .any ops Q S fuel m3 a w) Q) [r] l w) (hrd : n.rd = false := by rfl) : WH P n ops Q S (fuel + 1) listed l w := fun a ha => by
  subst h1; subst h2; subst h3
  refine wpAnyH_all hr (by simp) fun q hq => ?_
  have hq' : q = i ∨ q = j ∨ q = g := by simpa using hq
  rcases hq' with rfl | rfl | rfl
  · exact wpOp_of_WL hi hrd k1 ha
  · exact wpOp_of_WL hj hrd k2 ha
  · exact wpOp_of_WL hg hrd k3 ha
theorem pv_remN {a b : Nat} (hx : ev l x = some (.int .i64 (a : Int))) (hy : ev l y = some (.int .i64 (b : Int))) (h : 0 < b) : PV P l ⟨some d, .binOp .rem T x y U, ty, pos, af, none⟩ (.int .i64 ((a % b : Nat) : Int)) := by
  rw [Int.natCast_emod]; exact pv_rem hx hy (by omega)
theorem pv_quoN {a b : Nat} (hx : ev l x = some (.int .i64 (a : Int))) (hy : ev l y = some (.int .i64 (b : Int))) (h : 0 < b) (ha : a ≤ 9223372036854775807) : PV P l ⟨some d, .binOp .quo T x y U, ty, pos, af, none⟩ (.int .i64 ((a / b : Nat) : Int)) := by
  rw [Int.natCast_ediv]; exact pv_quo hx hy (by omega)
theorem ins_rel {α β : Type} (R : α → β → Prop) (xs : List α) (ys : List β) (K : Nat) (a : α) (b : β) (hl : xs.length = ys.length) (hK : K ≤ xs.length) (h : ∀ i (hi : i < xs.length) (hj : i < ys.length), R xs[i] ys[i]) (hab : R a b) :
    ∀ i (hi : i < (xs.take K ++ [a] ++ xs.drop K).length) (hj : i < (ys.take K ++ [b] ++ ys.drop K).length), R (xs.take K ++ [a] ++ xs.drop K)[i] (ys.take K ++ [b] ++ ys.drop K)[i] := by
  intro i hi hj
  have hi' : i < xs.length + 1 := by simp at hi; omega
  by_cases h1 : i < K
  · rw [List.getElem_append_left (by simp; omega), List.getElem_append_left (by simp; omega), List.getElem_append_left (by simp; omega), List.getElem_append_left (by simp; omega), List.getElem_take, List.getElem_take]
    exact h i _ _
  · by_cases h2 : i = K
    · subst h2
      have e1 : (xs.take i ++ [a] ++ xs.drop i)[i] = a := by simp [Nat.min_eq_left hK]
      have e2 : (ys.take i ++ [b] ++ ys.drop i)[i] = b := by simp [Nat.min_eq_left (show i ≤ ys.length by omega)]
      rw [e1, e2]; exact hab
    · rw [List.getElem_append_right (by simp; omega), List.getElem_append_right (by simp; omega), List.getElem_drop, List.getElem_drop]
      have e1 : K + (i - (xs.take K ++ [a]).length) = i - 1 := by simp; omega
      have e2 : K + (i - (ys.take K ++ [b]).length) = i - 1 := by simp; omega
      have h3 := h (i - 1) (by omega) (by omega)
      simp only [e1, e2]
      exact h3
theorem RsL.one {w : World} {vs : List Value} {ls : List (List UInt8)} (hl : vs.length = ls.length) (h : ∀ i (hi : i < vs.length) (hj : i < ls.length), Rs w vs[i] 1 (bs8 ls[i])) : ∀ u ∈ vs, u.oneCell' = true := by
  intro u hu
  obtain ⟨i, hi, rfl⟩ := List.getElem_of_mem hu
  obtain ⟨A, m, c, he, _⟩ := h i hi (by omega)
  rw [he]; rfl
end
end Go.Eng
namespace Go.Eng
open Go Go.RowKit
section
variable {P : Program} {n : Md} {ops : Array Oper} {Q : QT} {rest : List Oper} {l : Env} {w w' w0 : World} {M : Nat → Prop} {hp : List Ent} {d : Nat} {ty : TypeId} {pos : String} {af : Array Edge} {v : Value} {T U : TypeId} {x y z : Operand}
theorem run_copy {e by_ : Nat} {b o dl dc m c : Nat} {t : TypeId} {A : Option Addr} {cs ys : List Value} (hT : slT P T = some (e, 1, by_)) (hB : Bk w b t cs) (hr : Rs w (.slice A m c) 1 ys) (h1 : ∀ u ∈ ys, u.oneCell' = true) (hfit : o + dl ≤ cs.length) :
    (Builtin.copy_ #[T, U] ty #[.slice (some ⟨b, o, none⟩) dl dc, .slice A m c]).run P w = .ok (.int .i64 ((min m dl : Nat) : Int)) (w.setRow b (cs.take o ++ ys.take (min m dl) ++ cs.drop (o + min m dl)).toArray) := by
  have hl := hr.len
  obtain ⟨A', n', c', he, _, hf⟩ := run_first (P := P) (hr.cutH (b := min m dl) (Nat.min_le_left _ _))
  injection he with e1 e2 e3; subst e1; subst e2; subst e3
  have hf' : (Builtin.firstCells 1 (min m dl) (.slice A m c)).run P w = .ok (ys.take (min m dl)).toArray w := by
    cases A <;> exact hf
  have hlen : (ys.take (min m dl)).length = min m dl := by rw [List.length_take]; omega
  have hst := run_storeCells_bk (P := P) b o t (ys.take (min m dl)) 0 cs w hB (by rw [hlen]; omega) (fun u hu => h1 u (List.mem_of_mem_take hu))
  simp only [Nat.add_zero, hlen] at hst
  unfold slT at hT
  cases hu : P.underlying T with
  | none => simp [hu] at hT
  | some u =>
  cases u <;> simp [hu] at hT
  obtain ⟨i, hi, rfl, hi1, rfl⟩ := hT
  have hmin : Nat.min m dl = min m dl := rfl
  simp [Builtin.copy_, run_underlying hu, Builtin.lenOf, sizeOf, typeInfo, hi, hi1, hmin, hf', hst, goInt]
theorem Rs.frN {N : Nat → Prop} {sz : Nat} {xs : List Value} (h : Rs w v sz xs) (hf : Fr N w w') (hm : 0 < xs.length → ∀ b, v.ownBlock = some b → ¬ N b) : Rs w' v sz xs := by
  by_cases h0 : 0 < xs.length
  · exact h.fr hf (hm h0)
  · obtain ⟨A, m, c, he, g1, g2, g3, _⟩ := h
    exact ⟨A, m, c, he, g1, g2, g3, .inl (List.eq_nil_of_length_eq_zero (by omega))⟩
theorem Rs.ownLt {sz : Nat} {xs : List Value} (h : Rs w v sz xs) (hne : 0 < xs.length) {b : Nat} (hb : v.ownBlock = some b) : b < w.heap.size := by
  obtain ⟨A, m, c, rfl, g1, g2, g3, g4⟩ := h
  rcases g4 with rfl | ⟨g, o, rfl, g4⟩
  · simp at hne
  · have : g = b := by simpa [Value.ownBlock] using hb
    subst this
    exact World.block_lt_of_cell? w _ (g4 0 _ (List.getElem?_eq_getElem hne))
/-- Cells copied into a block of the call's own. -/
theorem WL.copy {k e by_ : Nat} {b o dl dc m c : Nat} {t : TypeId} {A : Option Addr} {cs ys : List Value} (hS : ST w0 M w hp) (hT : slT P T = some (e, 1, by_)) (hx : ev l x = some (.slice (some ⟨b, o, none⟩) dl dc)) (hk : hp[k]? = some (.blk b t cs)) (hy : ev l y = some (.slice A m c)) (hr : Rs w (.slice A m c) 1 ys) (h1 : ∀ u ∈ ys, u.oneCell' = true) (hfit : o + dl ≤ cs.length) (hd : Nat.blt d n.tmps = true)
    (K : ∀ w', Fr (fun q => q = b) w w' → ST w0 M w' (hp.set k (.blk b t (cs.take o ++ ys.take (min m dl) ++ cs.drop (o + min m dl)))) → WL P n ops Q rest ((d, .int .i64 ((min m dl : Nat) : Int)) :: l) w') :
    WL P n ops Q (⟨some d, .call { callee := .builtin .copy, args := #[x, y], argTypes := #[T, U] }, ty, pos, af, none⟩ :: rest) l w := by
  have hl := hr.len
  refine WL.wv (fun ρ hρ => ?_) hd (K _ (Fr.setRow w b _ rfl) (hS.setRow hk (cs' := cs.take o ++ ys.take (min m dl) ++ cs.drop (o + min m dl)) (by simp; omega)))
  simp [execOp, resolve, invoke, builtin, hρ _ _ hx, hρ _ _ hy, run_copy (P := P) (ty := ty) (U := U) hT (hS.bk hk) hr h1 hfit]
end
end Go.Eng
