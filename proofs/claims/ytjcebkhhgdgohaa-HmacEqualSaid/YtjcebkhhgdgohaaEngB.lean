/- The engine: rules by which a run of a function is read off, part B. -/
import Derived.Test.YtjcebkhhgdgohaaEngA
namespace Go.Eng
open Go Go.RowKit
def Agr (l : Env) (ρ : Operand → Value) : Prop := ∀ x u, ev l x = some u → ρ x = u
def PV (P : Program) (l : Env) (o : Oper) (v : Value) : Prop := o.guard = none ∧ ∀ ρ, Agr l ρ → ∀ w, (execOp ρ o).run P w = .ok (.value v) w
def RV (P : Program) (l : Env) (w : World) (o : Oper) (v : Value) : Prop := o.guard = none ∧ ∀ ρ, Agr l ρ → (execOp ρ o).run P w = .ok (.value v) w
theorem PV.rv {P : Program} {l : Env} {o : Oper} {v : Value} (h : PV P l o v) (w : World) : RV P l w o v := ⟨h.1, fun ρ hρ => h.2 ρ hρ w⟩
theorem Ag.agr {n : Md} {a : Act} {l : Env} (h : Ag n a l) : Agr l a.eval := fun _ _ hx => h.eval hx

section
variable {P : Program} {n : Md} {ops : Array Oper} {Q : QT} {rest : List Oper} {l : Env} {w : World} {d : Nat} {op : Op} {ty : TypeId} {pos : String} {af : Array Edge} {v : Value}

theorem ndefV {ρ : Operand → Value} {o : Oper} {w w' : World} (h : (execOp ρ o).run P w = .ok (.value v) w') : ∀ c, o.op ≠ .defer c := by
  intro c hc
  obtain ⟨dst, op, ty, pos, af, g⟩ := o
  simp only at hc
  subst hc
  simp only [execOp, Sem.run_bind] at h
  cases hr : (resolve ρ c ty).run P w <;> simp [hr] at h
theorem ndefS {ρ : Operand → Value} {o : Oper} {w w' : World} (h : (execOp ρ o).run P w = .ok .skip w') : ∀ c, o.op ≠ .defer c := by
  intro c hc
  obtain ⟨dst, op, ty, pos, af, g⟩ := o
  simp only at hc
  subst hc
  simp only [execOp, Sem.run_bind] at h
  cases hr : (resolve ρ c ty).run P w <;> simp [hr] at h
/-- An operation that turns the world and yields a value. -/
theorem WL.wv {w' : World} (h : ∀ ρ, Agr l ρ → (execOp ρ ⟨some d, op, ty, pos, af, none⟩).run P w = .ok (.value v) w') (hd : Nat.blt d n.tmps = true) (k : WL P n ops Q rest ((d, v) :: l) w') : WL P n ops Q (⟨some d, op, ty, pos, af, none⟩ :: rest) l w := fun a ha => by
  unfold wpL
  rw [if_pos (by simp [Region.wanted])]
  refine ⟨ndefV (h _ ha.agr), ?_⟩
  rw [h _ ha.agr]
  exact k _ (ha.put v (Nat.le_of_ble_eq_true hd))
/-- The same, the value dropped. -/
theorem WL.wn {w' : World} (h : ∀ ρ, Agr l ρ → (execOp ρ ⟨none, op, ty, pos, af, none⟩).run P w = .ok (.value v) w') (k : WL P n ops Q rest l w') : WL P n ops Q (⟨none, op, ty, pos, af, none⟩ :: rest) l w := fun a ha => by
  unfold wpL
  rw [if_pos (by simp [Region.wanted])]
  refine ⟨ndefV (h _ ha.agr), ?_⟩
  rw [h _ ha.agr]
  exact k _ ha
theorem WL.rv (h : RV P l w ⟨some d, op, ty, pos, af, none⟩ v) (hd : Nat.blt d n.tmps = true) (k : WL P n ops Q rest ((d, v) :: l) w) : WL P n ops Q (⟨some d, op, ty, pos, af, none⟩ :: rest) l w := WL.wv h.2 hd k
theorem WL.pv (h : PV P l ⟨some d, op, ty, pos, af, none⟩ v) (hd : Nat.blt d n.tmps = true) (k : WL P n ops Q rest ((d, v) :: l) w) : WL P n ops Q (⟨some d, op, ty, pos, af, none⟩ :: rest) l w := WL.rv (h.rv w) hd k
/-- An operation that turns the world and yields nothing (a store). -/
theorem WL.ws {w' : World} (h : ∀ ρ, Agr l ρ → (execOp ρ ⟨none, op, ty, pos, af, none⟩).run P w = .ok .skip w') (k : WL P n ops Q rest l w') : WL P n ops Q (⟨none, op, ty, pos, af, none⟩ :: rest) l w := fun a ha => by
  unfold wpL
  rw [if_pos (by simp [Region.wanted])]
  refine ⟨ndefS (h _ ha.agr), ?_⟩
  rw [h _ ha.agr]
  exact k _ ha
/-- A guarded operation whose guard is met; one whose guard is not. -/
theorem WL.guardT {o g : Oper} {j t : Nat} {b : Bool} (hg : o.guard = some (j, b)) (hj : ops[j]? = some g) (ht : g.dst = some t) (hv : lk l t = some (.bool b))
    (k : WL P n ops Q ({ o with guard := none } :: rest) l w) : WL P n ops Q (o :: rest) l w := fun a ha => by
  have hy : yielded ops a.tmps j = some b := by simp [yielded, hj, ht, ha.at_ t _ hv]
  have hw : Region.wanted o (yielded ops a.tmps) = true := by simp [Region.wanted, hg, hy]
  have := k a ha
  unfold wpL at this ⊢
  rw [if_pos hw]
  rw [if_pos (by simp [Region.wanted])] at this
  exact this
theorem WL.guardF {o g : Oper} {j t d : Nat} {b : Bool} (hg : o.guard = some (j, b)) (hj : ops[j]? = some g) (ht : g.dst = some t) (hv : lk l t = some (.bool (!b))) (ho : o.dst = some d) (hd : Nat.blt d n.tmps = true)
    (k : WL P n ops Q rest ((d, undef) :: l) w) : WL P n ops Q (o :: rest) l w := fun a ha => by
  have hy : yielded ops a.tmps j = some (!b) := by simp [yielded, hj, ht, ha.at_ t _ hv]
  have hw : Region.wanted o (yielded ops a.tmps) = false := by simp [Region.wanted, hg, hy]
  unfold wpL
  rw [if_neg (by simp [hw]), ho]
  exact k _ (ha.put undef (Nat.le_of_ble_eq_true hd))

-- moves
theorem pv_move {x : Operand} (hx : ev l x = some v) : PV P l ⟨some d, .move x, ty, pos, af, none⟩ v := ⟨rfl, fun ρ hρ w => by simp [execOp, hρ x v hx]⟩
theorem pv_assign {x : Operand} (hx : ev l x = some v) : PV P l ⟨some d, .assign x, ty, pos, af, none⟩ v := ⟨rfl, fun ρ hρ w => by simp [execOp, hρ x v hx]⟩
theorem pv_pick {c x y : Operand} {t : Bool} (hc : ev l c = some (.bool t)) (hx : ev l (if t then x else y) = some v) : PV P l ⟨some d, .pick c x y, ty, pos, af, none⟩ v := ⟨rfl, fun ρ hρ w => by
  have h1 := hρ _ _ hc; have h2 := hρ _ _ hx
  cases t <;> simp_all [execOp, asBool]⟩
theorem pv_nil {x : Operand} {a : Addr} (hx : ev l x = some (.pointer (some a))) : PV P l ⟨some d, .nilCheck x, ty, pos, af, none⟩ (.pointer (some a)) := ⟨rfl, fun ρ hρ w => by simp [execOp, hρ _ _ hx]⟩
theorem pv_extract {x : Operand} {i : Nat} {vs : Array Value} (hx : ev l x = some (.tuple vs)) (hv : vs[i]? = some v) : PV P l ⟨some d, .extract x i, ty, pos, af, none⟩ v := ⟨rfl, fun ρ hρ w => by simp [execOp, hρ _ _ hx, Instr.extract, hv]⟩
theorem evs_map {ρ : Operand → Value} (hρ : Agr l ρ) : ∀ {cap : List Operand} {vs : List Value}, evs l cap = some vs → cap.map ρ = vs
  | [], vs, hc => by simpa [evs] using hc
  | x :: r, vs, hc => by
    simp only [evs] at hc
    split at hc
    · rename_i v vs' h1 h2
      injection hc with hc; subst hc
      simp [hρ x _ h1, evs_map hρ h2]
    · cases hc
theorem pv_func {fn : Fn} {cap : List Operand} {vs : List Value} (hc : evs l cap = some vs) : PV P l ⟨some d, .makeFunc fn #[] cap.toArray, ty, pos, af, none⟩ (.func fn #[] vs.toArray) := ⟨rfl, fun ρ hρ w => by
  simp [execOp, Instr.makeFunc, evs_map hρ hc]⟩

-- whole numbers: binary operations on two ints of one kind
theorem run_int {k : IntKind} {op : BinOp} {a b : Int} {T : TypeId} {x y : Operand} {s : Sem Value} (hs : binOp op T (.int k a) (.int k b) = s) (w : World) :
   ((do eqGuard op T x y (.int k a) (.int k b); binOp op T (.int k a) (.int k b)) : Sem Value).run P w = s.run P w := by
  subst hs
  cases op <;> simp [eqGuard]

theorem pv_bin {k : IntKind} {o : BinOp} {a b : Int} {T U : TypeId} {x y : Operand} (hx : ev l x = some (.int k a)) (hy : ev l y = some (.int k b)) (hs : ∀ w, (binOp o T (.int k a) (.int k b)).run P w = .ok v w) :
    PV P l ⟨some d, .binOp o T x y U, ty, pos, af, none⟩ v := ⟨rfl, fun ρ hρ w => by
  simp only [execOp, hρ _ _ hx, hρ _ _ hy, Sem.run_bind, run_int rfl, hs, Result.andThen_ok, Sem.run_pure]⟩

theorem pv_lss {k : IntKind} {a b : Int} {T U : TypeId} {x y : Operand} (hx : ev l x = some (.int k a)) (hy : ev l y = some (.int k b)) : PV P l ⟨some d, .binOp .lss T x y U, ty, pos, af, none⟩ (.bool (decide (a < b))) :=
  pv_bin hx hy fun w => by simp [binOp, Op.intCmp]
theorem pv_leq {k : IntKind} {a b : Int} {T U : TypeId} {x y : Operand} (hx : ev l x = some (.int k a)) (hy : ev l y = some (.int k b)) : PV P l ⟨some d, .binOp .leq T x y U, ty, pos, af, none⟩ (.bool (decide (a ≤ b))) :=
  pv_bin hx hy fun w => by simp [binOp, Op.intCmp]
theorem pv_gtr {k : IntKind} {a b : Int} {T U : TypeId} {x y : Operand} (hx : ev l x = some (.int k a)) (hy : ev l y = some (.int k b)) : PV P l ⟨some d, .binOp .gtr T x y U, ty, pos, af, none⟩ (.bool (decide (b < a))) :=
  pv_bin hx hy fun w => by simp [binOp, Op.intCmp]
theorem pv_geq {k : IntKind} {a b : Int} {T U : TypeId} {x y : Operand} (hx : ev l x = some (.int k a)) (hy : ev l y = some (.int k b)) : PV P l ⟨some d, .binOp .geq T x y U, ty, pos, af, none⟩ (.bool (decide (b ≤ a))) :=
  pv_bin hx hy fun w => by simp [binOp, Op.intCmp]
theorem pv_eql {k : IntKind} {a b : Int} {T U : TypeId} {x y : Operand} (hx : ev l x = some (.int k a)) (hy : ev l y = some (.int k b)) : PV P l ⟨some d, .binOp .eql T x y U, ty, pos, af, none⟩ (.bool (decide (a = b))) :=
  pv_bin hx hy fun w => by simp [binOp, Op.intCmp]; rfl
theorem pv_neq {k : IntKind} {a b : Int} {T U : TypeId} {x y : Operand} (hx : ev l x = some (.int k a)) (hy : ev l y = some (.int k b)) : PV P l ⟨some d, .binOp .neq T x y U, ty, pos, af, none⟩ (.bool (decide (¬ a = b))) :=
  pv_bin hx hy fun w => by
    simp [binOp, Op.intCmp]
    by_cases h : a = b <;> simp [h]

theorem wrap_i64 {n : Int} (h1 : -9223372036854775808 ≤ n) (h2 : n ≤ 9223372036854775807) : IntKind.i64.wrap n = n := by
  exact IntWalk.i64_in n ⟨h1, h2⟩
theorem pv_add {a b : Int} {T U : TypeId} {x y : Operand} (hx : ev l x = some (.int .i64 a)) (hy : ev l y = some (.int .i64 b)) (h : -9223372036854775808 ≤ a + b ∧ a + b ≤ 9223372036854775807) : PV P l ⟨some d, .binOp .add T x y U, ty, pos, af, none⟩ (.int .i64 (a + b)) :=
  pv_bin hx hy fun w => by simp [binOp, Op.intArith, wrap_i64 h.1 h.2]
theorem pv_sub {a b : Int} {T U : TypeId} {x y : Operand} (hx : ev l x = some (.int .i64 a)) (hy : ev l y = some (.int .i64 b)) (h : -9223372036854775808 ≤ a - b ∧ a - b ≤ 9223372036854775807) : PV P l ⟨some d, .binOp .sub T x y U, ty, pos, af, none⟩ (.int .i64 (a - b)) :=
  pv_bin hx hy fun w => by simp [binOp, Op.intArith, wrap_i64 h.1 h.2]
theorem pv_mul {a b : Int} {T U : TypeId} {x y : Operand} (hx : ev l x = some (.int .i64 a)) (hy : ev l y = some (.int .i64 b)) (h : -9223372036854775808 ≤ a * b ∧ a * b ≤ 9223372036854775807) : PV P l ⟨some d, .binOp .mul T x y U, ty, pos, af, none⟩ (.int .i64 (a * b)) :=
  pv_bin hx hy fun w => by simp [binOp, Op.intArith, wrap_i64 h.1 h.2]
theorem pv_quo {a b : Int} {T U : TypeId} {x y : Operand} (hx : ev l x = some (.int .i64 a)) (hy : ev l y = some (.int .i64 b)) (h : 0 ≤ a ∧ a ≤ 9223372036854775807 ∧ 0 < b) : PV P l ⟨some d, .binOp .quo T x y U, ty, pos, af, none⟩ (.int .i64 (a / b)) :=
  pv_bin hx hy fun w => by
    have h1 : a / b ≤ a := Int.ediv_le_self b h.1
    have h0 : 0 ≤ a / b := Int.ediv_nonneg h.1 (by omega)
    have hb : b ≠ 0 := by omega
    simp [binOp, Op.intDiv, hb, Int.tdiv_eq_ediv_of_nonneg h.1, wrap_i64 (n := a / b) (by omega) (by omega)]
theorem pv_rem {a b : Int} {T U : TypeId} {x y : Operand} (hx : ev l x = some (.int .i64 a)) (hy : ev l y = some (.int .i64 b)) (h : 0 ≤ a ∧ 0 < b) : PV P l ⟨some d, .binOp .rem T x y U, ty, pos, af, none⟩ (.int .i64 (a % b)) :=
  pv_bin hx hy fun w => by
    have hb : b ≠ 0 := by omega
    simp [binOp, Op.intDiv, hb, Int.tmod_eq_emod_of_nonneg h.1]
theorem pv_not {t : Bool} {T : TypeId} {x : Operand} (hx : ev l x = some (.bool t)) : PV P l ⟨some d, .unOp .not T x, ty, pos, af, none⟩ (.bool (!t)) := ⟨rfl, fun ρ hρ w => by simp [execOp, hρ _ _ hx, Op.unary]⟩
end
end Go.Eng
