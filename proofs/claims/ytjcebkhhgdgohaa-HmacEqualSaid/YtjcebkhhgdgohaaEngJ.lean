/- The engine: rules by which a run of a function is read off, part J. -/
import Derived.Test.YtjcebkhhgdgohaaEngI
import Derived.StillTail
namespace Go.Eng
open Go Go.RowKit
section
variable {P : Program} {n : Md} {ops : Array Oper} {Q : QT} {rest : List Oper} {l : Env} {w w0 : World} {M : Nat → Prop} {hp : List Ent} {d : Nat} {ty : TypeId} {pos : String} {af : Array Edge} {v : Value} {T U : TypeId} {x y z : Operand}
theorem pv_fieldAddrZ {S f b off : Nat} (hT : fldT P S f = some off) (hx : ev l x = some (.pointer (some ⟨b, 0, none⟩))) : PV P l ⟨some d, .fieldAddr S x f, ty, pos, af, none⟩ (.pointer (some ⟨b, off, none⟩)) := by
  have := pv_fieldAddr (d := d) (ty := ty) (pos := pos) (af := af) hT hx
  rwa [Nat.zero_add] at this
theorem pv_indexAddrA1 {k : IntKind} {b o j len : Nat} {i : Int} (hT : arrT P T = some (len, 1)) (hx : ev l x = some (.pointer (some ⟨b, o, none⟩))) (hy : ev l y = some (.int k i)) (hi : i = (j : Int)) (hj : j < len) :
    PV P l ⟨some d, .indexAddr T x y, ty, pos, af, none⟩ (.pointer (some ⟨b, o + j, none⟩)) := by
  have := pv_indexAddrA (d := d) (ty := ty) (pos := pos) (af := af) hT hx hy hi hj
  rwa [Nat.mul_one] at this
theorem pv_indexAddrA1Z {k : IntKind} {b j len : Nat} {i : Int} (hT : arrT P T = some (len, 1)) (hx : ev l x = some (.pointer (some ⟨b, 0, none⟩))) (hy : ev l y = some (.int k i)) (hi : i = (j : Int)) (hj : j < len) :
    PV P l ⟨some d, .indexAddr T x y, ty, pos, af, none⟩ (.pointer (some ⟨b, j, none⟩)) := by
  have := pv_indexAddrA1 (d := d) (ty := ty) (pos := pos) (af := af) hT hx hy hi hj
  rwa [Nat.zero_add] at this
theorem pv_indexAddrS1 {k : IntKind} {b o j len cap e by_ : Nat} {i : Int} (hT : slT P T = some (e, 1, by_)) (hx : ev l x = some (.slice (some ⟨b, o, none⟩) len cap)) (hy : ev l y = some (.int k i)) (hi : i = (j : Int)) (hj : j < len) :
    PV P l ⟨some d, .indexAddr T x y, ty, pos, af, none⟩ (.pointer (some ⟨b, o + j, none⟩)) := by
  have := pv_indexAddrS (d := d) (ty := ty) (pos := pos) (af := af) hT hx hy hi hj
  rwa [Nat.mul_one] at this
theorem pv_indexAddrS1Z {k : IntKind} {b j len cap e by_ : Nat} {i : Int} (hT : slT P T = some (e, 1, by_)) (hx : ev l x = some (.slice (some ⟨b, 0, none⟩) len cap)) (hy : ev l y = some (.int k i)) (hi : i = (j : Int)) (hj : j < len) :
    PV P l ⟨some d, .indexAddr T x y, ty, pos, af, none⟩ (.pointer (some ⟨b, j, none⟩)) := by
  have := pv_indexAddrS1 (d := d) (ty := ty) (pos := pos) (af := af) hT hx hy hi hj
  rwa [Nat.zero_add] at this
/-- A cut from the head on. -/
theorem pv_sliceH {hi : Option Operand} {vh : Option Value} {A : Option Addr} {len cap e sz by_ b : Nat} (hT : slT P T = some (e, sz, by_)) (hx : ev l x = some (.slice A len cap))
    (hh : optv l hi = some vh) (nh : bnd len vh = some (b : Int)) (hbc : b ≤ cap) :
    PV P l ⟨some d, .slice T x none hi none, ty, pos, af, none⟩ (.slice A b cap) := by
  have := pv_sliceS (d := d) (ty := ty) (pos := pos) (af := af) (lo := none) (mx := none) (a := 0) hT hx rfl hh rfl rfl nh rfl (by simp) (Nat.zero_le _) hbc (Nat.le_refl _)
  have e1 : (if cap = 0 then A else A.map (·.add (0 * sz))) = A := by
    split
    · rfl
    · cases A <;> simp [Addr.add]
  rw [e1] at this
  simpa using this
/-- A whole array by its address. -/
theorem pv_sliceW {g len sz : Nat} (hT : arrT P T = some (len, sz)) (hx : ev l x = some (.pointer (some ⟨g, 0, none⟩))) :
    PV P l ⟨some d, .slice T x none none none, ty, pos, af, none⟩ (.slice (some ⟨g, 0, none⟩) len len) := by
  have := pv_sliceA (d := d) (ty := ty) (pos := pos) (af := af) (lo := none) (hi := none) (a := 0) (b := len) hT hx rfl rfl rfl rfl (Nat.zero_le _) (Nat.le_refl _)
  simpa using this
-- a pointer, a slice against nil
theorem run_eq (T : TypeId) (a b : Value) : Op.equal T a b = Op.equalIn (9999 + 1) T a b := rfl
theorem run_eqP (m : Nat) {E : TypeId} {p q : Option Addr} (hT : P.underlying T = some (.pointer E)) (hn : p = none ∨ q = none) (w : World) : (Op.equalIn (m + 1) T (.pointer p) (.pointer q)).run P w = .ok (p.isNone && q.isNone) w := by
  rcases hn with rfl | rfl
  · simp [Op.equalIn, run_underlying hT]
  · cases p <;> simp [Op.equalIn, run_underlying hT]
theorem run_eqS (m : Nat) {p q : Option Addr} {a b c e : Nat} (hT : (slT P T).isSome = true) (hn : p = none ∨ q = none) (w : World) : (Op.equalIn (m + 1) T (.slice p a b) (.slice q c e)).run P w = .ok (p.isNone && q.isNone) w := by
  unfold slT at hT
  cases hu : P.underlying T with
  | none => simp [hu] at hT
  | some u =>
  cases u <;> simp [hu] at hT
  rcases hn with rfl | rfl
  · simp [Op.equalIn, run_underlying hu]
  · cases p <;> simp [Op.equalIn, run_underlying hu]
theorem run_eqB (m : Nat) {a b : Bool} (hT : P.underlying T = some .bool) (w : World) : (Op.equalIn (m + 1) T (.bool a) (.bool b)).run P w = .ok (a == b) w := by
  simp [Op.equalIn, run_underlying hT]
theorem pv_eqlP {E : TypeId} {p q : Option Addr} (hT : P.underlying T = some (.pointer E)) (hx : ev l x = some (.pointer p)) (hy : ev l y = some (.pointer q)) (hn : p = none ∨ q = none) :
    PV P l ⟨some d, .binOp .eql T x y U, ty, pos, af, none⟩ (.bool (p.isNone && q.isNone)) := ⟨rfl, fun ρ hρ w => by
  have h := run_eqP 9999 hT hn w
  simp only [execOp, hρ _ _ hx, hρ _ _ hy, eqGuard, binOp, run_eq]
  simp [h]⟩
theorem pv_neqP {E : TypeId} {p q : Option Addr} (hT : P.underlying T = some (.pointer E)) (hx : ev l x = some (.pointer p)) (hy : ev l y = some (.pointer q)) (hn : p = none ∨ q = none) :
    PV P l ⟨some d, .binOp .neq T x y U, ty, pos, af, none⟩ (.bool !(p.isNone && q.isNone)) := ⟨rfl, fun ρ hρ w => by
  have h := run_eqP 9999 hT hn w
  simp only [execOp, hρ _ _ hx, hρ _ _ hy, eqGuard, binOp, run_eq]
  simp [h]⟩
theorem pv_eqlS {p q : Option Addr} {a b c e : Nat} (hT : (slT P T).isSome = true) (hx : ev l x = some (.slice p a b)) (hy : ev l y = some (.slice q c e)) (hn : p = none ∨ q = none) :
    PV P l ⟨some d, .binOp .eql T x y U, ty, pos, af, none⟩ (.bool (p.isNone && q.isNone)) := ⟨rfl, fun ρ hρ w => by
  have h := run_eqS 9999 (a := a) (b := b) (c := c) (e := e) hT hn w
  simp only [execOp, hρ _ _ hx, hρ _ _ hy, eqGuard, binOp, run_eq]
  simp [h]⟩
theorem pv_neqS {p q : Option Addr} {a b c e : Nat} (hT : (slT P T).isSome = true) (hx : ev l x = some (.slice p a b)) (hy : ev l y = some (.slice q c e)) (hn : p = none ∨ q = none) :
    PV P l ⟨some d, .binOp .neq T x y U, ty, pos, af, none⟩ (.bool !(p.isNone && q.isNone)) := ⟨rfl, fun ρ hρ w => by
  have h := run_eqS 9999 (a := a) (b := b) (c := c) (e := e) hT hn w
  simp only [execOp, hρ _ _ hx, hρ _ _ hy, eqGuard, binOp, run_eq]
  simp [h]⟩
theorem pv_eqlB {a b : Bool} (hT : P.underlying T = some .bool) (hx : ev l x = some (.bool a)) (hy : ev l y = some (.bool b)) :
    PV P l ⟨some d, .binOp .eql T x y U, ty, pos, af, none⟩ (.bool (a == b)) := ⟨rfl, fun ρ hρ w => by
  have h := run_eqB (a := a) (b := b) 9999 hT w
  simp only [execOp, hρ _ _ hx, hρ _ _ hy, eqGuard, binOp, run_eq]
  simp [h]⟩
theorem pv_neqB {a b : Bool} (hT : P.underlying T = some .bool) (hx : ev l x = some (.bool a)) (hy : ev l y = some (.bool b)) :
    PV P l ⟨some d, .binOp .neq T x y U, ty, pos, af, none⟩ (.bool !(a == b)) := ⟨rfl, fun ρ hρ w => by
  have h := run_eqB (a := a) (b := b) 9999 hT w
  simp only [execOp, hρ _ _ hx, hρ _ _ hy, eqGuard, binOp, run_eq]
  simp [h]⟩

-- a region that draws its order, walked in the order of the text
def WS (P : Program) (n : Md) (ops : Array Oper) (w : World) (K : Act → Prop) (rest : List Oper) (l : Env) : Prop := ∀ a, Ag n a l → wpStill P ops w K rest a
theorem WC.still {id : Nat} {lst : List Oper} (hm : P.follows .mixedOrders = true) (hB : Region.lexB .any lst.toArray = true) (h : WS P n lst.toArray w.drew (fun a => Q .normal a w.drew) lst l) (hro : n.ro = none := by rfl) : WC P n (.region id lst.toArray true) Q l w := fun a ha => by
  rw [hro]; exact wpIn_wide.2 (wp_region_still_lit hm hB (h a ha))
theorem WC.stillTail {id : Nat} {lst : List Oper} (k : Nat) (hm : P.follows .mixedOrders = true) (hB : Region.lexTailB .any lst.toArray k = true) (h : WS P n lst.toArray w.drew (fun a => wpList P lst.toArray Q (lst.drop k) a w.drew) (lst.take k) l) (hro : n.ro = none := by rfl) : WC P n (.region id lst.toArray true) Q l w := fun a ha => by
  rw [hro]; exact wpIn_wide.2 (wp_region_still_tail k hm hB (h a ha))
theorem WS.done (h : QN n Q .normal l w) : WS P n ops w (fun a => Q .normal a w) [] l := fun a ha => h a ha
theorem WS.tail {tl : List Oper} (h : WL P n ops Q tl l w) (hrd : n.rd = false := by rfl) : WS P n ops w (fun a => wpList P ops Q tl a w) [] l := fun a ha => wpL_list _ _ _ (by have := h a ha; rwa [hrd] at this)
theorem WS.sub {K : Act → Prop} {m : Env} (hs : Sub l m) (h : WS P n ops w K rest m) : WS P n ops w K rest l := fun a ha => h a (ha.sub hs)
theorem WS.rv {K : Act → Prop} {op : Op} (h : RV P l w ⟨some d, op, ty, pos, af, none⟩ v) (hd : Nat.blt d n.tmps = true) (k : WS P n ops w K rest ((d, v) :: l)) : WS P n ops w K (⟨some d, op, ty, pos, af, none⟩ :: rest) l := fun a ha => by
  unfold wpStill
  rw [if_pos (by simp [Region.wanted])]
  unfold Oper.still
  rw [h.2 _ ha.agr, Oper.stillUpon_value]
  exact k _ (ha.put v (Nat.le_of_ble_eq_true hd))
theorem WS.pv {K : Act → Prop} {op : Op} (h : PV P l ⟨some d, op, ty, pos, af, none⟩ v) (hd : Nat.blt d n.tmps = true) (k : WS P n ops w K rest ((d, v) :: l)) : WS P n ops w K (⟨some d, op, ty, pos, af, none⟩ :: rest) l := WS.rv (h.rv w) hd k
theorem WS.guardT {K : Act → Prop} {o g : Oper} {j t : Nat} {b : Bool} (hg : o.guard = some (j, b)) (hj : ops[j]? = some g) (ht : g.dst = some t) (hv : lk l t = some (.bool b))
    (k : WS P n ops w K ({ o with guard := none } :: rest) l) : WS P n ops w K (o :: rest) l := fun a ha => by
  have hy : yielded ops a.tmps j = some b := by simp [yielded, hj, ht, ha.at_ t _ hv]
  have hw : Region.wanted o (yielded ops a.tmps) = true := by simp [Region.wanted, hg, hy]
  have := k a ha
  unfold wpStill at this ⊢
  rw [if_pos hw]
  rw [if_pos (by simp [Region.wanted])] at this
  exact this
theorem WS.guardF {K : Act → Prop} {o g : Oper} {j t d : Nat} {b : Bool} (hg : o.guard = some (j, b)) (hj : ops[j]? = some g) (ht : g.dst = some t) (hv : lk l t = some (.bool (!b))) (ho : o.dst = some d) (hd : Nat.blt d n.tmps = true)
    (k : WS P n ops w K rest ((d, undef) :: l)) : WS P n ops w K (o :: rest) l := fun a ha => by
  have hy : yielded ops a.tmps j = some (!b) := by simp [yielded, hj, ht, ha.at_ t _ hv]
  have hw : Region.wanted o (yielded ops a.tmps) = false := by simp [Region.wanted, hg, hy]
  unfold wpStill
  rw [if_neg (by simp [hw]), ho]
  exact k _ (ha.put undef (Nat.le_of_ble_eq_true hd))
theorem WS.call {K : Act → Prop} {f : FuncId} {args : List Operand} {vs : List Value} {ts : Array TypeId} (hf : callable P f = true) (ha : evs l args = some vs) (hd : Nat.blt d n.tmps = true) (hc : Calls P f vs.toArray w fun e w' => e = .returned v ∧ w = w')
    (k : WS P n ops w K rest ((d, v) :: l)) :
    WS P n ops w K (⟨some d, .call { callee := .value (.func f), args := args.toArray, argTypes := ts }, ty, pos, af, none⟩ :: rest) l := fun a hag => by
  have ha' := evs_map hag.agr ha
  have hrun : (execOp a.eval ⟨some d, .call { callee := .value (.func f), args := args.toArray, argTypes := ts }, ty, pos, af, none⟩).run P w = .ok (.enter f vs.toArray) w := by
    simp [execOp, resolve, Act.eval, Deferred.ofValue, invoke, ha', run_callFunc hf]
  unfold wpStill
  rw [if_pos (by simp [Region.wanted])]
  unfold Oper.still
  rw [hrun]
  exact ⟨rfl, v, hc.mono fun e w' ⟨h1, h2⟩ => ⟨h1, h2.symm⟩, k _ (hag.put v (Nat.le_of_ble_eq_true hd))⟩
theorem WS.callv {K : Act → Prop} {x : Operand} {f : FuncId} {cap : List Value} {args : List Operand} {vs : List Value} {ts : Array TypeId} (hx : ev l x = some (.func (.func f) #[] cap.toArray)) (hf : callable P f = true) (ha : evs l args = some vs) (hd : Nat.blt d n.tmps = true) (hc : Calls P f (vs ++ cap).toArray w fun e w' => e = .returned v ∧ w = w')
    (k : WS P n ops w K rest ((d, v) :: l)) :
    WS P n ops w K (⟨some d, .call { callee := .value x, args := args.toArray, argTypes := ts }, ty, pos, af, none⟩ :: rest) l := fun a hag => by
  have ha' := evs_map hag.agr ha
  have hx' := hag.eval hx
  have hrun : (execOp a.eval ⟨some d, .call { callee := .value x, args := args.toArray, argTypes := ts }, ty, pos, af, none⟩).run P w = .ok (.enter f (vs ++ cap).toArray) w := by
    simp [execOp, resolve, hx', Deferred.ofValue, invoke, ha', run_callFunc hf]
  unfold wpStill
  rw [if_pos (by simp [Region.wanted])]
  unfold Oper.still
  rw [hrun]
  exact ⟨rfl, v, hc.mono fun e w' ⟨h1, h2⟩ => ⟨h1, h2.symm⟩, k _ (hag.put v (Nat.le_of_ble_eq_true hd))⟩
-- starts
theorem ST.one {b : Nat} {t : TypeId} {cs : List Value} (h : Bk w b t cs) (hM : M b) : ST w M w [.blk b t cs] :=
  ⟨.refl _, by simpa [Ent.ok] using h, by simp [Ent.block]; exact .inr hM, by simp⟩
theorem ST.both {e f : Ent} (h1 : e.ok w) (h2 : f.ok w) (hM : ∀ b, e.block = some b → M b) (hN : ∀ b, f.block = some b → M b) (hs : ∀ b, e.block = some b → f.block ≠ some b) : ST w M w [e, f] :=
  ⟨.refl _, by simp [h1, h2], by
    intro x hx b hb
    simp at hx
    rcases hx with rfl | rfl
    · exact .inr (hM b hb)
    · exact .inr (hN b hb), by simp; exact hs⟩
theorem ST.bk {k b : Nat} {t : TypeId} {cs : List Value} (h : ST w0 M w hp) (hk : hp[k]? = some (.blk b t cs)) : Bk w b t cs := h.at_ hk
theorem ST.rw_ {k : Nat} {t : TypeId} {sz : Nat} {xs : List Value} (h : ST w0 M w hp) (hk : hp[k]? = some (.row v t sz xs)) : Rw w v t sz xs := h.at_ hk
end
end Go.Eng
