/- The engine: rules by which a run of a function is read off, part I. -/
import Derived.Test.YtjcebkhhgdgohaaEngH
namespace Go.Eng
open Go Go.RowKit
section
variable {P : Program} {n : Md} {ops : Array Oper} {Q : QT} {rest : List Oper} {l : Env} {w w0 : World} {M : Nat → Prop} {hp : List Ent} {d : Nat} {ty : TypeId} {pos : String} {af : Array Edge} {v : Value} {T U : TypeId} {x y z : Operand}

/-- The value of a struct's or an array's literal: its parts laid into the zero. -/
def layOf (P : Program) (T : TypeId) : Option (List (Nat × Nat)) := match P.underlying T with
  | some (.struct fs) => fs.toList.mapM fun f => (P.info? f.type).map fun i => (f.offset, i.size)
  | _ => none
theorem pv_buildA {len sz : Nat} {parts : List (Nat × Operand)} {vs : List (Nat × Value)} {zs cells : List Value} (hT : arrT P T = some (len, sz)) (hz : zeroT P T = some zs) (hvs : pvs l parts = some vs)
    (hf : Instr.fill (fun i => some (i * sz, sz)) zs.toArray vs = some cells.toArray) : PV P l ⟨some d, .build T parts.toArray, ty, pos, af, none⟩ (.agg cells.toArray) := ⟨rfl, fun ρ hρ w => by
  unfold arrT at hT
  cases hu : P.underlying T with
  | none => simp [hu] at hT
  | some u =>
  cases u <;> simp [hu] at hT
  obtain ⟨q, hq, rfl, rfl⟩ := hT
  unfold zeroT at hz
  obtain ⟨i, hi, hz⟩ := Option.bind_eq_some_iff.1 hz
  obtain ⟨z, hz1, rfl⟩ := Option.map_eq_some_iff.1 hz
  have hp := pvs_map hρ hvs
  simp only [Array.toArray_toList] at hf
  simp [execOp, Instr.build, zeroValue, typeInfo, hi, hz1, run_underlying hu, sizeOf, hq, hp, hf]⟩
theorem run_places (P : Program) (w : World) : ∀ (fs : List Field) (ps : List (Nat × Nat)), (fs.mapM fun f => (P.info? f.type).map fun i => (f.offset, i.size)) = some ps →
    (fs.mapM (m := Sem) fun f => Prod.mk f.offset <$> sizeOf f.type).run P w = .ok ps w
  | [], ps, h => by simp at h; subst h; simp
  | f :: fs, ps, h => by
    rw [List.mapM_cons] at h
    obtain ⟨p, hp, h⟩ := Option.bind_eq_some_iff.1 h
    obtain ⟨r, hr, h⟩ := Option.bind_eq_some_iff.1 h
    injection h with h; subst h
    obtain ⟨i, hi, rfl⟩ := Option.map_eq_some_iff.1 hp
    have h1 : (Prod.mk f.offset <$> sizeOf f.type : Sem (Nat × Nat)).run P w = .ok (f.offset, i.size) w := by simp [sizeOf, typeInfo, hi]
    rw [List.mapM_cons, Sem.run_bind, h1, Result.andThen_ok, Sem.run_bind, run_places P w fs r hr, Result.andThen_ok]
    rfl
theorem pv_buildS {ps : List (Nat × Nat)} {parts : List (Nat × Operand)} {vs : List (Nat × Value)} {zs cells : List Value} (hT : layOf P T = some ps) (hz : zeroT P T = some zs) (hvs : pvs l parts = some vs)
    (hf : Instr.fill (fun i => ps[i]?) zs.toArray vs = some cells.toArray) : PV P l ⟨some d, .build T parts.toArray, ty, pos, af, none⟩ (.agg cells.toArray) := ⟨rfl, fun ρ hρ w => by
  unfold layOf at hT
  cases hu : P.underlying T with
  | none => simp [hu] at hT
  | some u =>
  rw [hu] at hT
  cases u <;> try (simp at hT; done)
  rename_i fs
  have hpl := run_places P w fs.toList ps hT
  unfold zeroT at hz
  obtain ⟨i, hi, hz⟩ := Option.bind_eq_some_iff.1 hz
  obtain ⟨z, hz1, rfl⟩ := Option.map_eq_some_iff.1 hz
  have hp := pvs_map hρ hvs
  simp only [Array.toArray_toList] at hf
  have hpl' : (fs.mapM (m := Sem) fun f => Prod.mk f.offset <$> sizeOf f.type).run P w = .ok ps.toArray w := by
    rw [← Array.toArray_toList (xs := fs), List.mapM_toArray]
    simp [hpl]
  simp [execOp, Instr.build, zeroValue, typeInfo, hi, hz1, run_underlying hu, hpl', hp, hf]⟩

-- calls
def callable (P : Program) (f : FuncId) : Bool := match P.funcs[f]? with
  | some fn => (fn.name != "runtime.NumGoroutine") && fn.body.isSome
  | none => false
theorem run_callFunc {f : FuncId} {args : Array Value} (h : callable P f = true) (w : World) : (callFunc f args).run P w = .ok (.enter f args) w := by
  unfold callable at h
  cases hf : P.funcs[f]? with
  | none => simp [hf] at h
  | some fn =>
    simp [hf] at h
    obtain ⟨h1, h2⟩ := h
    cases hb : fn.body with
    | none => rw [hb] at h2; cases h2
    | some c => simp [callFunc, hf, h1, hb]
/-- What a call's contract leaves to do. -/
def After (P : Program) (n : Md) (ops : Array Oper) (Q : QT) (rest : List Oper) (d : Option Nat) (l : Env) (e : Ending) (w : World) : Prop :=
  (∃ v, e = .returned v ∧ WL P n ops Q rest (match d with | some d => (d, v) :: l | none => l) w) ∨ ∃ ch, e = .panicked ch ∧ QN n Q (.panic ch) l w
theorem WL.enter {op : Op} {od : Option Nat} {f : FuncId} {args : Array Value} {R : Ending → World → Prop} (hop : ∀ c, op ≠ .defer c) (hrun : ∀ ρ, Agr l ρ → (execOp ρ ⟨od, op, ty, pos, af, none⟩).run P w = .ok (.enter f args) w) (hd : ∀ d, od = some d → Nat.blt d n.tmps = true) (hc : Calls P f args w R)
    (K : ∀ e w', R e w' → After P n ops Q rest od l e w') : WL P n ops Q (⟨od, op, ty, pos, af, none⟩ :: rest) l w := fun a hag => by
  unfold wpL
  rw [if_pos (by simp [Region.wanted])]
  refine ⟨hop, ?_⟩
  rw [hrun _ hag.agr]
  refine Calls.mono hc fun e w' h => ?_
  rcases K e w' h with ⟨v, rfl, hk⟩ | ⟨ch, rfl, hk⟩
  · cases od with
    | none => exact hk _ hag
    | some d => exact hk _ (hag.put v (Nat.le_of_ble_eq_true (hd d rfl)))
  · exact hk _ hag
theorem run_call {f : FuncId} {args : List Operand} {vs : List Value} {ts : Array TypeId} {od : Option Nat} (hf : callable P f = true) (ha : evs l args = some vs) (ρ : Operand → Value) (hρ : Agr l ρ) :
    (execOp ρ ⟨od, .call { callee := .value (.func f), args := args.toArray, argTypes := ts }, ty, pos, af, none⟩).run P w = .ok (.enter f vs.toArray) w := by
  have ha' := evs_map hρ ha
  have h1 : ρ (.func f) = .func (.func f) #[] #[] := hρ _ _ rfl
  simp [execOp, resolve, h1, Deferred.ofValue, invoke, ha', run_callFunc hf]
theorem run_callv {x : Operand} {f : FuncId} {cap : List Value} {args : List Operand} {vs : List Value} {ts : Array TypeId} {od : Option Nat} (hx : ev l x = some (.func (.func f) #[] cap.toArray)) (hf : callable P f = true) (ha : evs l args = some vs) (ρ : Operand → Value) (hρ : Agr l ρ) :
    (execOp ρ ⟨od, .call { callee := .value x, args := args.toArray, argTypes := ts }, ty, pos, af, none⟩).run P w = .ok (.enter f (vs ++ cap).toArray) w := by
  have ha' := evs_map hρ ha
  have hx' := hρ _ _ hx
  simp [execOp, resolve, hx', Deferred.ofValue, invoke, ha', run_callFunc hf]
/-- A call by a contract: what comes back is named by what the contract says. -/
theorem WL.call {f : FuncId} {args : List Operand} {vs : List Value} {ts : Array TypeId} {R : Ending → World → Prop} (hf : callable P f = true) (ha : evs l args = some vs) (hd : Nat.blt d n.tmps = true) (hc : Calls P f vs.toArray w R)
    (K : ∀ e w', R e w' → ∃ v, e = .returned v ∧ WL P n ops Q rest ((d, v) :: l) w') :
    WL P n ops Q (⟨some d, .call { callee := .value (.func f), args := args.toArray, argTypes := ts }, ty, pos, af, none⟩ :: rest) l w :=
  WL.enter (fun c h => by cases h) (run_call hf ha) (fun d' h => by injection h with h; subst h; exact hd) hc fun e w' h => .inl (K e w' h)
/-- A call that may pass a panic up. -/
theorem WL.callP {f : FuncId} {args : List Operand} {vs : List Value} {ts : Array TypeId} {R : Ending → World → Prop} (hf : callable P f = true) (ha : evs l args = some vs) (hd : Nat.blt d n.tmps = true) (hc : Calls P f vs.toArray w R)
    (K : ∀ e w', R e w' → After P n ops Q rest (some d) l e w') :
    WL P n ops Q (⟨some d, .call { callee := .value (.func f), args := args.toArray, argTypes := ts }, ty, pos, af, none⟩ :: rest) l w :=
  WL.enter (fun c h => by cases h) (run_call hf ha) (fun d' h => by injection h with h; subst h; exact hd) hc K
theorem WL.call0P {f : FuncId} {args : List Operand} {vs : List Value} {ts : Array TypeId} {R : Ending → World → Prop} (hf : callable P f = true) (ha : evs l args = some vs) (hc : Calls P f vs.toArray w R)
    (K : ∀ e w', R e w' → After P n ops Q rest none l e w') :
    WL P n ops Q (⟨none, .call { callee := .value (.func f), args := args.toArray, argTypes := ts }, ty, pos, af, none⟩ :: rest) l w :=
  WL.enter (fun c h => by cases h) (run_call hf ha) (fun d' h => by cases h) hc K
/-- A call whose result nobody takes up (a function without results, too). -/
theorem WL.call0 {f : FuncId} {args : List Operand} {vs : List Value} {ts : Array TypeId} {R : Ending → World → Prop} (hf : callable P f = true) (ha : evs l args = some vs) (hc : Calls P f vs.toArray w R)
    (K : ∀ e w', R e w' → ∃ v, e = .returned v ∧ WL P n ops Q rest l w') :
    WL P n ops Q (⟨none, .call { callee := .value (.func f), args := args.toArray, argTypes := ts }, ty, pos, af, none⟩ :: rest) l w :=
  WL.call0P hf ha hc fun e w' h => .inl (K e w' h)
/-- A call of a function value (a closure). -/
theorem WL.callv {x : Operand} {f : FuncId} {cap : List Value} {args : List Operand} {vs : List Value} {ts : Array TypeId} {R : Ending → World → Prop} (hx : ev l x = some (.func (.func f) #[] cap.toArray)) (hf : callable P f = true) (ha : evs l args = some vs) (hd : Nat.blt d n.tmps = true) (hc : Calls P f (vs ++ cap).toArray w R)
    (K : ∀ e w', R e w' → ∃ v, e = .returned v ∧ WL P n ops Q rest ((d, v) :: l) w') :
    WL P n ops Q (⟨some d, .call { callee := .value x, args := args.toArray, argTypes := ts }, ty, pos, af, none⟩ :: rest) l w :=
  WL.enter (fun c h => by cases h) (run_callv hx hf ha) (fun d' h => by injection h with h; subst h; exact hd) hc fun e w' h => .inl (K e w' h)
theorem WL.callv0 {x : Operand} {f : FuncId} {cap : List Value} {args : List Operand} {vs : List Value} {ts : Array TypeId} {R : Ending → World → Prop} (hx : ev l x = some (.func (.func f) #[] cap.toArray)) (hf : callable P f = true) (ha : evs l args = some vs) (hc : Calls P f (vs ++ cap).toArray w R)
    (K : ∀ e w', R e w' → ∃ v, e = .returned v ∧ WL P n ops Q rest l w') :
    WL P n ops Q (⟨none, .call { callee := .value x, args := args.toArray, argTypes := ts }, ty, pos, af, none⟩ :: rest) l w :=
  WL.enter (fun c h => by cases h) (run_callv hx hf ha) (fun d' h => by cases h) hc fun e w' h => .inl (K e w' h)

-- a region that draws its order
def WH (P : Program) (n : Md) (ops : Array Oper) (Q : QT) (S : World → Prop) (fuel : Nat) (listed : Array Bool) (l : Env) (w : World) : Prop := ∀ a, Ag n a l → wpAnyH P .any ops Q S fuel listed a w
theorem WC.draw {id : Nat} {lst : List Oper} (S : World → Prop) {fuel : Nat} {listed : Array Bool} (hm : P.follows .mixedOrders = true) (hf : lst.length = fuel) (hl : Array.replicate fuel false = listed)
    (h : WH P n lst.toArray Q S fuel listed l w.drew) (hro : n.ro = none := by rfl) : WC P n (.region id lst.toArray true) Q l w := fun a ha => by
  subst hf; subst hl
  rw [hro]
  exact wpIn_wide.2 (wp_region_held (S := S) hm (by simpa using h a ha))
theorem WH.done {S : World → Prop} {fuel : Nat} {listed : Array Bool} (hr : Region.ready .any ops listed = []) (h : QN n Q .normal l w) : WH P n ops Q S fuel listed l w := fun a ha => wpAnyH_done hr (h a ha) fuel
theorem WH.sub {S : World → Prop} {fuel : Nat} {listed : Array Bool} {m : Env} (hs : Sub l m) (h : WH P n ops Q S fuel listed m w) : WH P n ops Q S fuel listed l w := fun a ha => h a (ha.sub hs)
/-- Taken first: an operation that yields its value in every world that meets S. -/
theorem WH.take {S : World → Prop} {fuel d : Nat} {listed listed' : Array Bool} (i : Nat) {op : Op} (hi : ops[i]? = some ⟨some d, op, ty, pos, af, none⟩) (hs : Region.noSelect ops = true) (hf : Region.free .any ops listed i = true)
    (hr : (Region.ready .any ops listed).contains i = true) (hQ : ∀ c a w, Q (.panic c) (a.put (some d) v) w → Q (.panic c) a w) (hl : listed.setIfInBounds i true = listed')
    (hv : ∀ w, S w → RV P l w ⟨some d, op, ty, pos, af, none⟩ v) (hS : S w) (hd : Nat.blt d n.tmps = true) (k : WH P n ops Q S fuel listed' ((d, v) :: l) w) : WH P n ops Q S (fuel + 1) listed l w := fun a ha => by
  subst hl
  refine wpAnyH_take (i := i) hi hs hf hr hQ (.inl ⟨by simp [Region.wanted], fun w hw => (hv w hw).2 _ ha.agr⟩) hS ?_
  exact k _ (ha.put v (Nat.le_of_ble_eq_true hd))
/-- A guarded operation whose guard is not met, taken first. -/
theorem WH.takeF {S : World → Prop} {fuel d j t : Nat} {b : Bool} {listed listed' : Array Bool} (i : Nat) {op : Op} {g : Oper} (hi : ops[i]? = some ⟨some d, op, ty, pos, af, some (j, b)⟩) (hj : ops[j]? = some g) (ht : g.dst = some t) (hb : lk l t = some (.bool (!b))) (hs : Region.noSelect ops = true) (hf : Region.free .any ops listed i = true)
    (hr : (Region.ready .any ops listed).contains i = true) (hQ : ∀ c a w, Q (.panic c) (a.put (some d) undef) w → Q (.panic c) a w) (hl : listed.setIfInBounds i true = listed')
    (hS : S w) (hd : Nat.blt d n.tmps = true) (k : WH P n ops Q S fuel listed' ((d, undef) :: l) w) : WH P n ops Q S (fuel + 1) listed l w := fun a ha => by
  subst hl
  have hy : yielded ops a.tmps j = some (!b) := by simp [yielded, hj, ht, ha.at_ t _ hb]
  refine wpAnyH_take (i := i) (v := undef) hi hs hf hr hQ (.inr ⟨by simp [Region.wanted, hy], rfl⟩) hS ?_
  exact k _ (ha.put undef (Nat.le_of_ble_eq_true hd))
/-- A guarded operation whose guard is met, taken first. -/
theorem WH.takeT {S : World → Prop} {fuel d j t : Nat} {b : Bool} {listed listed' : Array Bool} (i : Nat) {op : Op} {g : Oper} (hi : ops[i]? = some ⟨some d, op, ty, pos, af, some (j, b)⟩) (hj : ops[j]? = some g) (ht : g.dst = some t) (hb : lk l t = some (.bool b)) (hs : Region.noSelect ops = true) (hf : Region.free .any ops listed i = true)
    (hr : (Region.ready .any ops listed).contains i = true) (hQ : ∀ c a w, Q (.panic c) (a.put (some d) v) w → Q (.panic c) a w) (hl : listed.setIfInBounds i true = listed')
    (hv : ∀ w, S w → RV P l w ⟨some d, op, ty, pos, af, none⟩ v) (hS : S w) (hd : Nat.blt d n.tmps = true) (k : WH P n ops Q S fuel listed' ((d, v) :: l) w) : WH P n ops Q S (fuel + 1) listed l w := fun a ha => by
  subst hl
  have hy : yielded ops a.tmps j = some b := by simp [yielded, hj, ht, ha.at_ t _ hb]
  refine wpAnyH_take (i := i) hi hs hf hr hQ (.inl ⟨by simp [Region.wanted, hy], fun w hw => ?_⟩) hS ?_
  · have := (hv w hw).2 _ ha.agr
    simpa [execOp] using this
  · exact k _ (ha.put v (Nat.le_of_ble_eq_true hd))
theorem wpOp_of_WL {S : World → Prop} {fuel : Nat} {listed' : Array Bool} {i : Nat} {o : Oper} (hi : ops[i]? = some o) (hrd : n.rd = false)
    (k : WL P n ops (Exit.then (fun a w => S w ∧ wpAnyH P .any ops Q S fuel listed' a w) Q) [o] l w) {a : Act} (ha : Ag n a l) : wpOp P ops Q i (fun a' w' => S w' ∧ wpAnyH P .any ops Q S fuel listed' a' w') a w := by
  have h1 := k a ha
  rw [hrd] at h1
  have h := wpL_list _ _ _ h1
  unfold wpList at h
  unfold wpOp
  simp only [hi]
  split
  · rename_i hw
    rw [if_pos hw] at h
    rcases h with h | ⟨h1, a', w', h2⟩
    · refine .inl ?_
      unfold Oper.wp at h ⊢
      generalize (execOp a.eval o).run P w = r at h ⊢
      cases r with
      | ok x w' =>
        cases x <;> simp only [Oper.upon] at h ⊢ <;> first
          | exact h
          | exact h.mono fun e w'' he => by
              cases e <;> first | exact he | (obtain ⟨a', w3, he⟩ := he; exact ⟨a', w3, he⟩)
      | halt x w' => cases x <;> simp only [Oper.upon] at h ⊢ <;> exact h
    · exact .inr ⟨h1, a', w', h2⟩
  · rename_i hw
    rw [if_neg hw] at h
    exact h
/-- What is left may come up in one way only. -/
theorem WH.one {S : World → Prop} {fuel : Nat} {listed listed' : Array Bool} (i : Nat) {o : Oper} (hi : ops[i]? = some o) (hr : Region.ready .any ops listed = [i]) (hl : listed.setIfInBounds i true = listed')
    (k : WL P n ops (Exit.then (fun a w => S w ∧ wpAnyH P .any ops Q S fuel listed' a w) Q) [o] l w) (hrd : n.rd = false := by rfl) : WH P n ops Q S (fuel + 1) listed l w := fun a ha => by
  subst hl
  refine wpAnyH_all hr (by simp) fun j hj => ?_
  obtain rfl : j = i := by simpa using hj
  exact wpOp_of_WL hi hrd k ha
theorem QN.held {S : World → Prop} {fuel : Nat} {listed : Array Bool} (hS : S w) (h : WH P n ops Q S fuel listed l w) : QN n (Exit.then (fun a w => S w ∧ wpAnyH P .any ops Q S fuel listed a w) Q) .normal l w := fun a ha => ⟨hS, h a ha⟩
end

-- results that lie in cells
section
variable {P : Program} {n : Md} {fn : Func} {R : Ending → World → Prop} {l : Env} {w : World}
theorem QN.retC {t T b : Nat} {cs : List Value} (hr : fn.results = #[.cell t T]) (hv : lk l t = some (.pointer (some ⟨b, 0, none⟩))) (hT : aggT P T = some cs.length) (hc : ∀ j u, cs[j]? = some u → w.cell? ⟨b, 0 + j, none⟩ = some u) (h : R (.returned (.agg cs.toArray)) w) (hds : n.ds = [] := by rfl) :
    QN n (bodyPost P fn R) .ret l w := fun a ha =>
  bodyPost_ret (v := .agg cs.toArray) (by have h1 := ha.at_ t _ hv; simp [results, hr, Array.getD_eq_getD_getElem?, h1, asAddr, run_loadAgg hT hc]) (ha.defers.trans hds) h
theorem QN.retCT {t T b u : Nat} {cs : List Value} {x : Value} (hr : fn.results = #[.cell t T, .tmp u]) (hv : lk l t = some (.pointer (some ⟨b, 0, none⟩))) (hT : aggT P T = some cs.length) (hc : ∀ j u, cs[j]? = some u → w.cell? ⟨b, 0 + j, none⟩ = some u) (hx : lk l u = some x) (h : R (.returned (.tuple #[.agg cs.toArray, x])) w) (hds : n.ds = [] := by rfl) :
    QN n (bodyPost P fn R) .ret l w := fun a ha =>
  bodyPost_ret (v := .tuple #[.agg cs.toArray, x]) (by have h1 := ha.at_ t _ hv; have h2 := ha.at_ u _ hx; simp [results, hr, Array.getD_eq_getD_getElem?, h1, h2, asAddr, run_loadAgg hT hc]) (ha.defers.trans hds) h
theorem QN.retCC {t T b t' T' b' : Nat} {cs cs' : List Value} (hr : fn.results = #[.cell t T, .cell t' T']) (hv : lk l t = some (.pointer (some ⟨b, 0, none⟩))) (hT : aggT P T = some cs.length) (hc : ∀ j u, cs[j]? = some u → w.cell? ⟨b, 0 + j, none⟩ = some u)
    (hv' : lk l t' = some (.pointer (some ⟨b', 0, none⟩))) (hT' : aggT P T' = some cs'.length) (hc' : ∀ j u, cs'[j]? = some u → w.cell? ⟨b', 0 + j, none⟩ = some u) (h : R (.returned (.tuple #[.agg cs.toArray, .agg cs'.toArray])) w) (hds : n.ds = [] := by rfl) :
    QN n (bodyPost P fn R) .ret l w := fun a ha =>
  bodyPost_ret (v := .tuple #[.agg cs.toArray, .agg cs'.toArray]) (by have h1 := ha.at_ t _ hv; have h2 := ha.at_ t' _ hv'; simp [results, hr, Array.getD_eq_getD_getElem?, h1, h2, asAddr, run_loadAgg hT hc, run_loadAgg hT' hc']) (ha.defers.trans hds) h
end
end Go.Eng
