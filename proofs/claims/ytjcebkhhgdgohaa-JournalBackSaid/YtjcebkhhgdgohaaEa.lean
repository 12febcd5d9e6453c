/- The engine: rules by which a run of a function is read off, first part. -/
import Derived.WalkKit
import Derived.WalkLawsBesides
import Derived.Deep.LoopGhost
import Derived.Deep.RegionHeld
import Derived.TacticsIn
import Derived.Laws.IdiomStrings
namespace Go.Eng
open Go Go.RowKit

abbrev Env := List (Nat × Value)

def lk : Env → Nat → Option Value
  | [], _ => none
  | (k, v) :: r, t => cond (Nat.beq k t) (some v) (lk r t)

def ev (l : Env) : Operand → Option Value
  | .tmp t => lk l t
  | .const v => some v
  | .global g => some (.pointer (some ⟨g, 0, none⟩))
  | .func f => some (.func (.func f) #[] #[])

def evs (l : Env) : List Operand → Option (List Value)
  | [] => some []
  | x :: r => match ev l x, evs l r with
    | some v, some vs => some (v :: vs)
    | _, _ => none

/-- What an activation is: how many temporaries, in a round of which loop, what is deferred; whether it may call a round. -/
structure Md where
  tmps : Nat
  ro : Option Nat
  ds : List Deferred
  rd : Bool
@[reducible] def md (n : Nat) : Md := ⟨n, none, [], false⟩
def Fnc (ro : Option Nat) : Fence := { fn := fun _ => True, depth := none, alive := false, round := ro }

structure Ag (n : Md) (a : Act) (l : Env) : Prop where
  size : a.tmps.size = n.tmps
  defers : a.defers = n.ds
  at_ : ∀ t v, lk l t = some v → a.tmps[t]? = some v

theorem Ag.eval {n : Md} {a : Act} {l : Env} (h : Ag n a l) {x : Operand} {v : Value} (hx : ev l x = some v) : a.eval x = v := by
  cases x with
  | tmp t => simp only [ev] at hx; have := h.at_ t v hx; simp [Act.eval, Array.getD_eq_getD_getElem?, this]
  | const u => injection hx
  | global g => injection hx
  | func f => injection hx

theorem lk_cons_ne {k t : Nat} {v : Value} {l : Env} (h : k ≠ t) : lk ((k, v) :: l) t = lk l t := by
  have : Nat.beq k t = false := by
    cases hb : Nat.beq k t with
    | false => rfl
    | true => exact absurd (Nat.eq_of_beq_eq_true hb) h
  simp [lk, this]
theorem lk_cons_eq {k : Nat} {v : Value} {l : Env} : lk ((k, v) :: l) k = some v := by
  simp [lk]

theorem Ag.put {n : Md} {a : Act} {l : Env} (h : Ag n a l) {d : Nat} (v : Value) (hd : d < n.tmps) : Ag n (a.put (some d) v) ((d, v) :: l) := by
  refine ⟨by simp [Act.put, h.size], by simp [Act.put, h.defers], ?_⟩
  intro t u hu
  simp only [Act.put]
  by_cases e : d = t
  · subst e
    rw [lk_cons_eq] at hu
    injection hu with hu; subst hu
    have : d < a.tmps.size := by rw [h.size]; exact hd
    rw [Array.getElem?_setIfInBounds_self_of_lt this]
  · rw [lk_cons_ne e] at hu
    rw [Array.getElem?_setIfInBounds_ne e]
    exact h.at_ t u hu

/-- An env that knows less. -/
def Sub (l m : Env) : Prop := ∀ t v, lk m t = some v → lk l t = some v
theorem Sub.nil {l : Env} : Sub l [] := fun t v h => by simp [lk] at h
theorem Sub.cons {l m : Env} {k : Nat} {v : Value} (h : lk l k = some v) (hs : Sub l m) : Sub l ((k, v) :: m) := fun t u hu => by
  by_cases e : k = t
  · subst e; rw [lk_cons_eq] at hu; rw [h]; exact hu
  · rw [lk_cons_ne e] at hu; exact hs t u hu
theorem Sub.refl {l : Env} : Sub l l := fun _ _ h => h
theorem Ag.sub {n : Md} {a : Act} {l m : Env} (h : Ag n a l) (hs : Sub l m) : Ag n a m := ⟨h.size, h.defers, fun t v hv => h.at_ t v (hs t v hv)⟩

abbrev QT := Exit → Act → World → Prop

/-- What an operation does, and what is asked behind it. -/
def upW (P : Program) (rd : Bool) (o : Oper) (a : Act) (next : Act → World → Prop) (Q : QT) : Result Next → Prop
  | .ok (.value v) w' => next (a.put o.dst v) w'
  | .ok .skip w' => next (a.put o.dst undef) w'
  | .ok (.enter f args) w' => Calls P f args w' fun
      | .returned v, w'' => next (a.put o.dst v) w''
      | .panicked chain, w'' => Q (.panic chain) a w''
      | .outgrown, _ => False
  | .ok (.round l f tmps assign body) w' => rd = true ∧ RoundIn (Fnc none) 0 P l f tmps assign body w' fun
      | .returned v, w'' => next (a.put o.dst v) w''
      | .panicked chain, w'' => Q (.panic chain) a w''
      | .outgrown, _ => False
  | .halt (.panic v) w' => Q (.panic [{ v, recovered := false }]) a w'
  | _ => False
def wpL (P : Program) (rd : Bool) (ops : Array Oper) (Q : QT) : List Oper → Act → World → Prop
  | [], a, w => Q .normal a w
  | o :: rest, a, w => if Region.wanted o (yielded ops a.tmps) then (∀ c, o.op ≠ .defer c) ∧ upW P rd o a (wpL P rd ops Q rest) Q ((execOp a.eval o).run P w) else wpL P rd ops Q rest (a.put o.dst undef) w
theorem wpL_in {P : Program} {rd : Bool} {ro : Option Nat} {ops : Array Oper} {Q : QT} : ∀ (rest : List Oper) (a : Act) (w : World), wpL P rd ops Q rest a w → wpListIn (Fnc ro) 0 P ops Q rest a w
  | [], _, _, h => h
  | o :: rest, a, w, h => by
    unfold wpL at h
    unfold wpListIn
    split
    · rename_i hw
      rw [if_pos hw] at h
      obtain ⟨hd, h⟩ := h
      refine ⟨fun _ _ => trivial, ?_⟩
      rw [show (Fnc ro).round = ro from rfl, Oper.semAt_eq ro _ _ hd]
      generalize (execOp a.eval o).run P w = r at h ⊢
      cases r with
      | ok x w' =>
        cases x with
        | value v => exact wpL_in rest _ _ h
        | skip => exact wpL_in rest _ _ h
        | enter f args =>
          refine ⟨fun h => by simp [Fnc] at h, ?_⟩
          have h2 : CallsIn Fence.wide (0 - 1) P f args w' _ := callsIn_wide.2 h
          refine ⟨trivial, fun cs hr => ?_⟩
          obtain ⟨e, w2, fr, hR, hc⟩ := h2.2 cs (room_wide _)
          refine ⟨e, w2, fr, ?_, hc⟩
          cases e with
          | returned v => exact wpL_in rest _ _ hR
          | panicked ch => exact hR
          | outgrown => exact hR.elim
        | round l f tmps assign body =>
          obtain ⟨_, h⟩ := h
          refine ⟨fun h => by simp [Fnc] at h, trivial, fun c cs hr => ?_⟩
          obtain ⟨e, w2, hR, hc⟩ := h.2 c cs (fun d hd => by simp [Fnc] at hd)
          refine ⟨e, w2, ?_, hc⟩
          cases e with
          | returned v => exact wpL_in rest _ _ hR
          | panicked ch => exact hR
          | outgrown => exact hR.elim
        | _ => exact h.elim
      | halt x w' => cases x with
        | panic v => exact h
        | _ => exact h.elim
    · rename_i hw
      rw [if_neg hw] at h
      exact ⟨fun _ _ => trivial, wpL_in rest _ _ h⟩
theorem wpL_list {P : Program} {ops : Array Oper} {Q : QT} : ∀ (rest : List Oper) (a : Act) (w : World), wpL P false ops Q rest a w → wpList P ops Q rest a w
  | [], _, _, h => h
  | o :: rest, a, w, h => by
    unfold wpL at h
    unfold wpList
    split
    · rename_i hw
      rw [if_pos hw] at h
      obtain ⟨hd, h⟩ := h
      refine .inl ?_
      unfold Oper.wp
      generalize (execOp a.eval o).run P w = r at h ⊢
      cases r with
      | ok x w' =>
        cases x with
        | value v => exact wpL_list rest _ _ h
        | skip => exact wpL_list rest _ _ h
        | enter f args =>
          have h2 : Calls P f args w' _ := h
          refine Calls.mono h2 fun e w2 hR => ?_
          cases e with
          | returned v => exact wpL_list rest _ _ hR
          | panicked ch => exact hR
          | outgrown => exact hR.elim
        | round l f tmps assign body => cases h.1
        | _ => exact h.elim
      | halt x w' => cases x with
        | panic v => exact h
        | _ => exact h.elim
    · rename_i hw
      rw [if_neg hw] at h
      exact wpL_list rest _ _ h

def WC (P : Program) (n : Md) (c : Code) (Q : QT) (l : Env) (w : World) : Prop := ∀ a, Ag n a l → c.wpIn (Fnc n.ro) 0 P Q a w
def WL (P : Program) (n : Md) (ops : Array Oper) (Q : QT) (rest : List Oper) (l : Env) (w : World) : Prop := ∀ a, Ag n a l → wpL P n.rd ops Q rest a w
def QN (n : Md) (Q : QT) (e : Exit) (l : Env) (w : World) : Prop := ∀ a, Ag n a l → Q e a w

section
variable {P : Program} {n : Md} {ops : Array Oper} {Q : QT} {rest : List Oper} {l : Env} {w : World}

theorem WC.sub {c : Code} {m : Env} (hs : Sub l m) (h : WC P n c Q m w) : WC P n c Q l w := fun a ha => h a (ha.sub hs)
theorem WL.sub {m : Env} (hs : Sub l m) (h : WL P n ops Q rest m w) : WL P n ops Q rest l w := fun a ha => h a (ha.sub hs)
theorem QN.sub {e : Exit} {m : Env} (hs : Sub l m) (h : QN n Q e m w) : QN n Q e l w := fun a ha => h a (ha.sub hs)

-- control
theorem WC.seq {x y : Code} (h : WC P n x (Exit.then (Code.wpIn (Fnc n.ro) 0 P y Q) Q) l w) : WC P n (.seq x y) Q l w := fun a ha => wpIn_seq (h a ha)
theorem WC.block {id : Nat} {c : Code} (h : WC P n c (Exit.inBlock id Q) l w) : WC P n (.block id c) Q l w := fun a ha => wpIn_block (h a ha)
theorem WC.skip (h : QN n Q .normal l w) : WC P n .skip Q l w := fun a ha => wpIn_skip (h a ha)
theorem WC.exit {id : Nat} (h : QN n Q (.exit id) l w) : WC P n (.exit id) Q l w := fun a ha => wpIn_exit (h a ha)
theorem WC.ret (h : QN n Q .ret l w) : WC P n .ret Q l w := fun a ha => wpIn_ret (h a ha)
theorem WC.region {id : Nat} {lst : List Oper} (h : WL P n lst.toArray Q lst l w) : WC P n (.region id lst.toArray false) Q l w := fun a ha => wpIn_region_lit (wpL_in _ _ _ (h a ha))
theorem WL.nil (h : QN n Q .normal l w) : WL P n ops Q [] l w := fun a ha => h a ha
theorem WC.cond {c : Operand} {x y : Code} {t : Bool} (hc : ev l c = some (.bool t)) (ht : t = true → WC P n x Q l w) (hf : t = false → WC P n y Q l w) : WC P n (.cond c x y) Q l w := fun a ha =>
  wpIn_cond_split (ha.eval hc) (fun h => ht h a ha) (fun h => hf h a ha)
theorem WC.condT {c : Operand} {x y : Code} {t : Bool} (hc : ev l c = some (.bool t)) (h0 : t = true) (ht : WC P n x Q l w) : WC P n (.cond c x y) Q l w :=
  WC.cond hc (fun _ => ht) (fun h => by rw [h0] at h; cases h)
theorem WC.condF {c : Operand} {x y : Code} {t : Bool} (hc : ev l c = some (.bool t)) (h0 : t = false) (hf : WC P n y Q l w) : WC P n (.cond c x y) Q l w :=
  WC.cond hc (fun h => by rw [h0] at h; cases h) (fun _ => hf)
theorem WC.condD {c : Operand} {x y : Code} {p : Prop} [Decidable p] (hc : ev l c = some (.bool (decide p))) (ht : p → WC P n x Q l w) (hf : ¬ p → WC P n y Q l w) : WC P n (.cond c x y) Q l w :=
  WC.cond hc (fun h => ht (of_decide_eq_true h)) (fun h => hf (of_decide_eq_false h))
theorem WC.condDT {c : Operand} {x y : Code} {p : Prop} [Decidable p] (hc : ev l c = some (.bool (decide p))) (h : p) (ht : WC P n x Q l w) : WC P n (.cond c x y) Q l w :=
  WC.condT hc (decide_eq_true h) ht
theorem WC.condDF {c : Operand} {x y : Code} {p : Prop} [Decidable p] (hc : ev l c = some (.bool (decide p))) (h : ¬ p) (hf : WC P n y Q l w) : WC P n (.cond c x y) Q l w :=
  WC.condF hc (decide_eq_false h) hf
/-- A cut between two pieces of code: what holds behind the first. -/
theorem WC.cut {α : Type} {x y : Code} (I : α → Env) (R : α → World → Prop)
    (h : WC P n x (Exit.then (fun a w => ∃ s, Ag n a (I s) ∧ R s w) Q) l w) (k : ∀ s w, R s w → WC P n y Q (I s) w) : WC P n (.seq x y) Q l w := fun a ha =>
  wpIn_seq (wpIn_mono (h a ha) fun e a' w' q => by
    cases e with
    | normal => obtain ⟨s, hs, hr⟩ := q; exact k s w' hr a' hs
    | _ => exact q)
theorem QN.mid {α : Type} {I : α → Env} {R : α → World → Prop} (s : α) (hs : Sub l (I s)) (hr : R s w) :
    QN n (Exit.then (fun a w => ∃ s, Ag n a (I s) ∧ R s w) Q) .normal l w := fun _ ha => ⟨s, ha.sub hs, hr⟩
/-- A loop. -/
theorem WC.loop {α : Type} {c : Code} (I : α → Env) (R : α → World → Prop) (μ : α → Nat) (s₀ : α) (hI : Sub l (I s₀)) (hR : R s₀ w)
    (round : ∀ s w N, N = μ s → R s w → WC P n c (Exit.then (fun a w => ∃ s', Ag n a (I s') ∧ R s' w ∧ μ s' < N) Q) (I s) w) : WC P n (.loop c) Q l w := fun a ha => by
  refine wpIn_loop (fun a w => ∃ s, Ag n a (I s) ∧ R s w) (fun a w => leastOf fun m => ∃ s, m = μ s ∧ Ag n a (I s) ∧ R s w) ⟨s₀, ha.sub hI, hR⟩ ?_
  intro a w hx
  obtain ⟨s1, h1⟩ := hx
  have hex : ∃ m, ∃ s, m = μ s ∧ Ag n a (I s) ∧ R s w := ⟨_, s1, rfl, h1⟩
  obtain ⟨⟨s, hm, hs, hr⟩, _⟩ := leastOf_spec hex
  refine wpIn_mono (round s w _ hm hr a hs) ?_
  intro e a' w' q
  cases e with
  | normal =>
    obtain ⟨s', h1, h2, h3⟩ := q
    exact ⟨⟨s', h1, h2⟩, Nat.lt_of_le_of_lt ((leastOf_spec ⟨_, s', rfl, h1, h2⟩).2 _ ⟨s', rfl, h1, h2⟩) h3⟩
  | _ => exact q
theorem QN.roundE {α : Type} {I : α → Env} {R : α → World → Prop} {μ : α → Nat} {N : Nat} (h : ∃ s', Sub l (I s') ∧ R s' w ∧ μ s' < N) :
    QN n (Exit.then (fun a w => ∃ s', Ag n a (I s') ∧ R s' w ∧ μ s' < N) Q) .normal l w := fun _ ha => by
  obtain ⟨s', hs, hr, hm⟩ := h
  exact ⟨s', ha.sub hs, hr, hm⟩
theorem QN.midE {α : Type} {I : α → Env} {R : α → World → Prop} (h : ∃ s, Sub l (I s) ∧ R s w) :
    QN n (Exit.then (fun a w => ∃ s, Ag n a (I s) ∧ R s w) Q) .normal l w := fun _ ha => by
  obtain ⟨s, hs, hr⟩ := h
  exact ⟨s, ha.sub hs, hr⟩
-- exits
theorem QN.thenW {y : Code} (h : WC P n y Q l w) : QN n (Exit.then (Code.wpIn (Fnc n.ro) 0 P y Q) Q) .normal l w := h
theorem QN.thenX {K : Act → World → Prop} {i : Nat} (h : QN n Q (.exit i) l w) : QN n (Exit.then K Q) (.exit i) l w := h
theorem QN.thenR {K : Act → World → Prop} (h : QN n Q .ret l w) : QN n (Exit.then K Q) .ret l w := h
theorem QN.blockN {i : Nat} (h : QN n Q .normal l w) : QN n (Exit.inBlock i Q) .normal l w := h
theorem QN.blockR {i : Nat} (h : QN n Q .ret l w) : QN n (Exit.inBlock i Q) .ret l w := h
theorem QN.blockX {i : Nat} (h : QN n Q .normal l w) : QN n (Exit.inBlock i Q) (.exit i) l w := fun a ha => by simpa [Exit.inBlock] using h a ha
theorem QN.blockY {i j : Nat} (hj : Nat.beq j i = false) (h : QN n Q (.exit j) l w) : QN n (Exit.inBlock i Q) (.exit j) l w := fun a ha => by
  have : ¬ j = i := fun e => by subst e; rw [Nat.beq_refl] at hj; cases hj
  simpa [Exit.inBlock, this] using h a ha
end

-- entry
theorem Ag.enter (args : List Value) (m n : Nat) (hn : args.length + m = n) :
    Ag (md n) { tmps := args.toArray ++ Array.replicate m undef, defers := [] } ((List.range args.length).zip args) := by
  refine ⟨by simp [hn], rfl, ?_⟩
  intro t v hv
  have key : ∀ (k : Nat) (as : List Value) (t : Nat) (v : Value), lk ((List.range' k as.length).zip as) t = some v → k ≤ t ∧ as[t - k]? = some v := by
    intro k as
    induction as generalizing k with
    | nil => intro t v h; simp [lk] at h
    | cons x xs ih =>
      intro t v h
      simp only [List.length_cons, List.range'_succ, List.zip_cons_cons] at h
      by_cases e : k = t
      · subst e; rw [lk_cons_eq] at h; simpa using h
      · rw [lk_cons_ne e] at h
        obtain ⟨h1, h2⟩ := ih (k + 1) t v h
        refine ⟨by omega, ?_⟩
        obtain ⟨j, rfl⟩ : ∃ j, t = k + 1 + j := ⟨t - (k + 1), by omega⟩
        have e1 : k + 1 + j - k = j + 1 := by omega
        have e2 : k + 1 + j - (k + 1) = j := by omega
        rw [e1]; rw [e2] at h2; simpa using h2
  rw [List.range_eq_range'] at hv
  obtain ⟨_, h2⟩ := key 0 args t v hv
  simp only [Nat.sub_zero] at h2
  have hlt : t < args.length := by
    rcases Nat.lt_or_ge t args.length with h | h
    · exact h
    · rw [List.getElem?_eq_none h] at h2; cases h2
  show (args.toArray ++ Array.replicate m undef)[t]? = some v
  rw [Array.getElem?_append_left (by simpa using hlt)]
  simpa using h2

theorem calls_of_WC {P : Program} {f : FuncId} {fn : Func} {c : Code} {args : List Value} {w : World} {R : Ending → World → Prop} {n : Nat}
    (hf : P.funcs[f]? = some fn) (hb : fn.body = some c) (hn : fn.ntmps = n) (hle : Nat.ble args.length n = true)
    (h : WC P (md n) c (bodyPost P fn R) ((List.range args.length).zip args) w) : Calls P f args.toArray w R := by
  refine calls_of_wp hf hb ?_
  refine wpIn_wide.1 (h _ ?_)
  have hle' : args.length ≤ n := Nat.le_of_ble_eq_true hle
  have := Ag.enter args (fn.ntmps - args.toArray.size) n (by simp [hn]; omega)
  exact this

-- results
theorem QN.ret0 {P : Program} {n : Md} {fn : Func} {R : Ending → World → Prop} {l : Env} {w : World} (hr : fn.results = #[]) (h : R (.returned (.tuple #[])) w) (hds : n.ds = [] := by rfl) : QN n (bodyPost P fn R) .ret l w := fun a ha =>
  bodyPost_ret (v := .tuple #[]) (by simp [results, hr]) (ha.defers.trans hds) h
theorem QN.end0 {P : Program} {n : Md} {fn : Func} {R : Ending → World → Prop} {l : Env} {w : World} (hr : fn.results = #[]) (h : R (.returned (.tuple #[])) w) (hds : n.ds = [] := by rfl) : QN n (bodyPost P fn R) .normal l w := fun a ha =>
  bodyPost_end (v := .tuple #[]) (by simp [results, hr]) (ha.defers.trans hds) h
theorem QN.ret1 {P : Program} {n : Md} {fn : Func} {R : Ending → World → Prop} {l : Env} {w : World} {t : Nat} {v : Value} (hr : fn.results = #[.tmp t]) (hv : lk l t = some v) (h : R (.returned v) w) (hds : n.ds = [] := by rfl) : QN n (bodyPost P fn R) .ret l w := fun a ha =>
  bodyPost_ret (v := v) (by have := ha.at_ t v hv; simp [results, hr, Array.getD_eq_getD_getElem?, this]) (ha.defers.trans hds) h
theorem QN.ret2 {P : Program} {n : Md} {fn : Func} {R : Ending → World → Prop} {l : Env} {w : World} {t u : Nat} {v x : Value} (hr : fn.results = #[.tmp t, .tmp u]) (hv : lk l t = some v) (hx : lk l u = some x) (h : R (.returned (.tuple #[v, x])) w) (hds : n.ds = [] := by rfl) : QN n (bodyPost P fn R) .ret l w := fun a ha =>
  bodyPost_ret (v := .tuple #[v, x]) (by have h1 := ha.at_ t v hv; have h2 := ha.at_ u x hx; simp [results, hr, Array.getD_eq_getD_getElem?, h1, h2]) (ha.defers.trans hds) h
end Go.Eng
namespace Go.Eng
open Go Go.RowKit
def Agr (l : Env) (ρ : Operand → Value) : Prop := ∀ x u, ev l x = some u → ρ x = u
def PV (P : Program) (l : Env) (o : Oper) (v : Value) : Prop := o.guard = none ∧ ∀ ρ, Agr l ρ → ∀ w, (execOp ρ o).run P w = .ok (.value v) w
def RV (P : Program) (l : Env) (w : World) (o : Oper) (v : Value) : Prop := o.guard = none ∧ ∀ ρ, Agr l ρ → (execOp ρ o).run P w = .ok (.value v) w
theorem PV.rv {P : Program} {l : Env} {o : Oper} {v : Value} (h : PV P l o v) (w : World) : RV P l w o v := ⟨h.1, fun ρ hρ => h.2 ρ hρ w⟩
theorem Ag.agr {n : Md} {a : Act} {l : Env} (h : Ag n a l) : Agr l a.eval := fun _ _ hx => h.eval hx

section
variable {P : Program} {n : Md} {ops : Array Oper} {Q : QT} {rest : List Oper} {l : Env} {w : World} {d : Nat} {op : Op} {ty : TypeId} {pos : String} {af : Array Edge} {v : Value}

theorem ndefV {ρ : Operand → Value} {o : Oper} {w w' : World} (h : (execOp ρ o).run P w = .ok (.value v) w') : ∀ c, o.op ≠ .defer c := by
  intro c hc
  obtain ⟨dst, op, ty, pos, af, g⟩ := o
  simp only at hc
  subst hc
  simp only [execOp, Sem.run_bind] at h
  cases hr : (resolve ρ c ty).run P w <;> simp [hr] at h
theorem ndefS {ρ : Operand → Value} {o : Oper} {w w' : World} (h : (execOp ρ o).run P w = .ok .skip w') : ∀ c, o.op ≠ .defer c := by
  intro c hc
  obtain ⟨dst, op, ty, pos, af, g⟩ := o
  simp only at hc
  subst hc
  simp only [execOp, Sem.run_bind] at h
  cases hr : (resolve ρ c ty).run P w <;> simp [hr] at h
/-- An operation that turns the world and yields a value. -/
theorem WL.wv {w' : World} (h : ∀ ρ, Agr l ρ → (execOp ρ ⟨some d, op, ty, pos, af, none⟩).run P w = .ok (.value v) w') (hd : Nat.blt d n.tmps = true) (k : WL P n ops Q rest ((d, v) :: l) w') : WL P n ops Q (⟨some d, op, ty, pos, af, none⟩ :: rest) l w := fun a ha => by
  unfold wpL
  rw [if_pos (by simp [Region.wanted])]
  refine ⟨ndefV (h _ ha.agr), ?_⟩
  rw [h _ ha.agr]
  exact k _ (ha.put v (Nat.le_of_ble_eq_true hd))
/-- The same, the value dropped. -/
theorem WL.wn {w' : World} (h : ∀ ρ, Agr l ρ → (execOp ρ ⟨none, op, ty, pos, af, none⟩).run P w = .ok (.value v) w') (k : WL P n ops Q rest l w') : WL P n ops Q (⟨none, op, ty, pos, af, none⟩ :: rest) l w := fun a ha => by
  unfold wpL
  rw [if_pos (by simp [Region.wanted])]
  refine ⟨ndefV (h _ ha.agr), ?_⟩
  rw [h _ ha.agr]
  exact k _ ha
theorem WL.rv (h : RV P l w ⟨some d, op, ty, pos, af, none⟩ v) (hd : Nat.blt d n.tmps = true) (k : WL P n ops Q rest ((d, v) :: l) w) : WL P n ops Q (⟨some d, op, ty, pos, af, none⟩ :: rest) l w := WL.wv h.2 hd k
theorem WL.pv (h : PV P l ⟨some d, op, ty, pos, af, none⟩ v) (hd : Nat.blt d n.tmps = true) (k : WL P n ops Q rest ((d, v) :: l) w) : WL P n ops Q (⟨some d, op, ty, pos, af, none⟩ :: rest) l w := WL.rv (h.rv w) hd k
/-- An operation that turns the world and yields nothing (a store). -/
theorem WL.ws {w' : World} (h : ∀ ρ, Agr l ρ → (execOp ρ ⟨none, op, ty, pos, af, none⟩).run P w = .ok .skip w') (k : WL P n ops Q rest l w') : WL P n ops Q (⟨none, op, ty, pos, af, none⟩ :: rest) l w := fun a ha => by
  unfold wpL
  rw [if_pos (by simp [Region.wanted])]
  refine ⟨ndefS (h _ ha.agr), ?_⟩
  rw [h _ ha.agr]
  exact k _ ha
/-- A guarded operation whose guard is met; one whose guard is not. -/
theorem WL.guardT {o g : Oper} {j t : Nat} {b : Bool} (hg : o.guard = some (j, b)) (hj : ops[j]? = some g) (ht : g.dst = some t) (hv : lk l t = some (.bool b))
    (k : WL P n ops Q ({ o with guard := none } :: rest) l w) : WL P n ops Q (o :: rest) l w := fun a ha => by
  have hy : yielded ops a.tmps j = some b := by simp [yielded, hj, ht, ha.at_ t _ hv]
  have hw : Region.wanted o (yielded ops a.tmps) = true := by simp [Region.wanted, hg, hy]
  have := k a ha
  unfold wpL at this ⊢
  rw [if_pos hw]
  rw [if_pos (by simp [Region.wanted])] at this
  exact this
theorem WL.guardF {o g : Oper} {j t d : Nat} {b : Bool} (hg : o.guard = some (j, b)) (hj : ops[j]? = some g) (ht : g.dst = some t) (hv : lk l t = some (.bool (!b))) (ho : o.dst = some d) (hd : Nat.blt d n.tmps = true)
    (k : WL P n ops Q rest ((d, undef) :: l) w) : WL P n ops Q (o :: rest) l w := fun a ha => by
  have hy : yielded ops a.tmps j = some (!b) := by simp [yielded, hj, ht, ha.at_ t _ hv]
  have hw : Region.wanted o (yielded ops a.tmps) = false := by simp [Region.wanted, hg, hy]
  unfold wpL
  rw [if_neg (by simp [hw]), ho]
  exact k _ (ha.put undef (Nat.le_of_ble_eq_true hd))

-- moves
theorem pv_move {x : Operand} (hx : ev l x = some v) : PV P l ⟨some d, .move x, ty, pos, af, none⟩ v := ⟨rfl, fun ρ hρ w => by simp [execOp, hρ x v hx]⟩
theorem pv_assign {x : Operand} (hx : ev l x = some v) : PV P l ⟨some d, .assign x, ty, pos, af, none⟩ v := ⟨rfl, fun ρ hρ w => by simp [execOp, hρ x v hx]⟩
theorem pv_pick {c x y : Operand} {t : Bool} (hc : ev l c = some (.bool t)) (hx : ev l (if t then x else y) = some v) : PV P l ⟨some d, .pick c x y, ty, pos, af, none⟩ v := ⟨rfl, fun ρ hρ w => by
  have h1 := hρ _ _ hc; have h2 := hρ _ _ hx
  cases t <;> simp_all [execOp, asBool]⟩
theorem pv_nil {x : Operand} {a : Addr} (hx : ev l x = some (.pointer (some a))) : PV P l ⟨some d, .nilCheck x, ty, pos, af, none⟩ (.pointer (some a)) := ⟨rfl, fun ρ hρ w => by simp [execOp, hρ _ _ hx]⟩
theorem pv_extract {x : Operand} {i : Nat} {vs : Array Value} (hx : ev l x = some (.tuple vs)) (hv : vs[i]? = some v) : PV P l ⟨some d, .extract x i, ty, pos, af, none⟩ v := ⟨rfl, fun ρ hρ w => by simp [execOp, hρ _ _ hx, Instr.extract, hv]⟩
theorem evs_map {ρ : Operand → Value} (hρ : Agr l ρ) : ∀ {cap : List Operand} {vs : List Value}, evs l cap = some vs → cap.map ρ = vs
  | [], vs, hc => by simpa [evs] using hc
  | x :: r, vs, hc => by
    simp only [evs] at hc
    split at hc
    · rename_i v vs' h1 h2
      injection hc with hc; subst hc
      simp [hρ x _ h1, evs_map hρ h2]
    · cases hc
theorem pv_func {fn : Fn} {cap : List Operand} {vs : List Value} (hc : evs l cap = some vs) : PV P l ⟨some d, .makeFunc fn #[] cap.toArray, ty, pos, af, none⟩ (.func fn #[] vs.toArray) := ⟨rfl, fun ρ hρ w => by
  simp [execOp, Instr.makeFunc, evs_map hρ hc]⟩

-- whole numbers: binary operations on two ints of one kind
theorem run_int {k : IntKind} {op : BinOp} {a b : Int} {T : TypeId} {x y : Operand} {s : Sem Value} (hs : binOp op T (.int k a) (.int k b) = s) (w : World) :
   ((do eqGuard op T x y (.int k a) (.int k b); binOp op T (.int k a) (.int k b)) : Sem Value).run P w = s.run P w := by
  subst hs
  cases op <;> simp [eqGuard]

theorem pv_bin {k : IntKind} {o : BinOp} {a b : Int} {T U : TypeId} {x y : Operand} (hx : ev l x = some (.int k a)) (hy : ev l y = some (.int k b)) (hs : ∀ w, (binOp o T (.int k a) (.int k b)).run P w = .ok v w) :
    PV P l ⟨some d, .binOp o T x y U, ty, pos, af, none⟩ v := ⟨rfl, fun ρ hρ w => by
  simp only [execOp, hρ _ _ hx, hρ _ _ hy, Sem.run_bind, run_int rfl, hs, Result.andThen_ok, Sem.run_pure]⟩

theorem pv_lss {k : IntKind} {a b : Int} {T U : TypeId} {x y : Operand} (hx : ev l x = some (.int k a)) (hy : ev l y = some (.int k b)) : PV P l ⟨some d, .binOp .lss T x y U, ty, pos, af, none⟩ (.bool (decide (a < b))) :=
  pv_bin hx hy fun w => by simp [binOp, Op.intCmp]
theorem pv_leq {k : IntKind} {a b : Int} {T U : TypeId} {x y : Operand} (hx : ev l x = some (.int k a)) (hy : ev l y = some (.int k b)) : PV P l ⟨some d, .binOp .leq T x y U, ty, pos, af, none⟩ (.bool (decide (a ≤ b))) :=
  pv_bin hx hy fun w => by simp [binOp, Op.intCmp]
theorem pv_gtr {k : IntKind} {a b : Int} {T U : TypeId} {x y : Operand} (hx : ev l x = some (.int k a)) (hy : ev l y = some (.int k b)) : PV P l ⟨some d, .binOp .gtr T x y U, ty, pos, af, none⟩ (.bool (decide (b < a))) :=
  pv_bin hx hy fun w => by simp [binOp, Op.intCmp]
theorem pv_geq {k : IntKind} {a b : Int} {T U : TypeId} {x y : Operand} (hx : ev l x = some (.int k a)) (hy : ev l y = some (.int k b)) : PV P l ⟨some d, .binOp .geq T x y U, ty, pos, af, none⟩ (.bool (decide (b ≤ a))) :=
  pv_bin hx hy fun w => by simp [binOp, Op.intCmp]
theorem pv_eql {k : IntKind} {a b : Int} {T U : TypeId} {x y : Operand} (hx : ev l x = some (.int k a)) (hy : ev l y = some (.int k b)) : PV P l ⟨some d, .binOp .eql T x y U, ty, pos, af, none⟩ (.bool (decide (a = b))) :=
  pv_bin hx hy fun w => by simp [binOp, Op.intCmp]; rfl
theorem pv_neq {k : IntKind} {a b : Int} {T U : TypeId} {x y : Operand} (hx : ev l x = some (.int k a)) (hy : ev l y = some (.int k b)) : PV P l ⟨some d, .binOp .neq T x y U, ty, pos, af, none⟩ (.bool (decide (¬ a = b))) :=
  pv_bin hx hy fun w => by
    simp [binOp, Op.intCmp]
    by_cases h : a = b <;> simp [h]

theorem wrap_i64 {n : Int} (h1 : -9223372036854775808 ≤ n) (h2 : n ≤ 9223372036854775807) : IntKind.i64.wrap n = n := by
  exact IntWalk.i64_in n ⟨h1, h2⟩
theorem pv_add {a b : Int} {T U : TypeId} {x y : Operand} (hx : ev l x = some (.int .i64 a)) (hy : ev l y = some (.int .i64 b)) (h : -9223372036854775808 ≤ a + b ∧ a + b ≤ 9223372036854775807) : PV P l ⟨some d, .binOp .add T x y U, ty, pos, af, none⟩ (.int .i64 (a + b)) :=
  pv_bin hx hy fun w => by simp [binOp, Op.intArith, wrap_i64 h.1 h.2]
theorem pv_sub {a b : Int} {T U : TypeId} {x y : Operand} (hx : ev l x = some (.int .i64 a)) (hy : ev l y = some (.int .i64 b)) (h : -9223372036854775808 ≤ a - b ∧ a - b ≤ 9223372036854775807) : PV P l ⟨some d, .binOp .sub T x y U, ty, pos, af, none⟩ (.int .i64 (a - b)) :=
  pv_bin hx hy fun w => by simp [binOp, Op.intArith, wrap_i64 h.1 h.2]
theorem pv_mul {a b : Int} {T U : TypeId} {x y : Operand} (hx : ev l x = some (.int .i64 a)) (hy : ev l y = some (.int .i64 b)) (h : -9223372036854775808 ≤ a * b ∧ a * b ≤ 9223372036854775807) : PV P l ⟨some d, .binOp .mul T x y U, ty, pos, af, none⟩ (.int .i64 (a * b)) :=
  pv_bin hx hy fun w => by simp [binOp, Op.intArith, wrap_i64 h.1 h.2]
theorem pv_quo {a b : Int} {T U : TypeId} {x y : Operand} (hx : ev l x = some (.int .i64 a)) (hy : ev l y = some (.int .i64 b)) (h : 0 ≤ a ∧ a ≤ 9223372036854775807 ∧ 0 < b) : PV P l ⟨some d, .binOp .quo T x y U, ty, pos, af, none⟩ (.int .i64 (a / b)) :=
  pv_bin hx hy fun w => by
    have h1 : a / b ≤ a := Int.ediv_le_self b h.1
    have h0 : 0 ≤ a / b := Int.ediv_nonneg h.1 (by omega)
    have hb : b ≠ 0 := by omega
    simp [binOp, Op.intDiv, hb, Int.tdiv_eq_ediv_of_nonneg h.1, wrap_i64 (n := a / b) (by omega) (by omega)]
theorem pv_rem {a b : Int} {T U : TypeId} {x y : Operand} (hx : ev l x = some (.int .i64 a)) (hy : ev l y = some (.int .i64 b)) (h : 0 ≤ a ∧ 0 < b) : PV P l ⟨some d, .binOp .rem T x y U, ty, pos, af, none⟩ (.int .i64 (a % b)) :=
  pv_bin hx hy fun w => by
    have hb : b ≠ 0 := by omega
    simp [binOp, Op.intDiv, hb, Int.tmod_eq_emod_of_nonneg h.1]
theorem pv_not {t : Bool} {T : TypeId} {x : Operand} (hx : ev l x = some (.bool t)) : PV P l ⟨some d, .unOp .not T x, ty, pos, af, none⟩ (.bool (!t)) := ⟨rfl, fun ρ hρ w => by simp [execOp, hρ _ _ hx, Op.unary]⟩
end
end Go.Eng
namespace Go.Eng
open Go Go.RowKit
@[reducible] def b8 (x : UInt8) : Value := .int .u8 (x.toNat : Int)
@[reducible] def w16 (x : UInt16) : Value := .int .u16 (x.toNat : Int)
@[reducible] def w32 (x : UInt32) : Value := .int .u32 (x.toNat : Int)
@[reducible] def w64 (x : UInt64) : Value := .int .u64 (x.toNat : Int)

theorem wrap_u (k : IntKind) (hk : k.signed = false) (n : Int) : k.wrap n = n % 2 ^ k.bits := by simp [IntKind.wrap, hk]
theorem wrap_u_nat (k : IntKind) (hk : k.signed = false) (n : Nat) : k.wrap (n : Int) = ((n % 2 ^ k.bits : Nat) : Int) := by rw [wrap_u k hk]; simp
theorem wrap8_add (x y : UInt8) : IntKind.u8.wrap ((x.toNat : Int) + y.toNat) = ((x + y).toNat : Int) := by rw [← Int.natCast_add, wrap_u_nat _ rfl, UInt8.toNat_add]; rfl
theorem wrap32_add (x y : UInt32) : IntKind.u32.wrap ((x.toNat : Int) + y.toNat) = ((x + y).toNat : Int) := by rw [← Int.natCast_add, wrap_u_nat _ rfl, UInt32.toNat_add]; rfl
theorem wrap64_add (x y : UInt64) : IntKind.u64.wrap ((x.toNat : Int) + y.toNat) = ((x + y).toNat : Int) := by rw [← Int.natCast_add, wrap_u_nat _ rfl, UInt64.toNat_add]; rfl
theorem wrap8_mul (x y : UInt8) : IntKind.u8.wrap ((x.toNat : Int) * y.toNat) = ((x * y).toNat : Int) := by rw [← Int.natCast_mul, wrap_u_nat _ rfl, UInt8.toNat_mul]; rfl
theorem wrap32_mul (x y : UInt32) : IntKind.u32.wrap ((x.toNat : Int) * y.toNat) = ((x * y).toNat : Int) := by rw [← Int.natCast_mul, wrap_u_nat _ rfl, UInt32.toNat_mul]; rfl
theorem wrap64_mul (x y : UInt64) : IntKind.u64.wrap ((x.toNat : Int) * y.toNat) = ((x * y).toNat : Int) := by rw [← Int.natCast_mul, wrap_u_nat _ rfl, UInt64.toNat_mul]; rfl
theorem sub_mod_aux (N a b : Nat) (hb : b < N) : ((a : Int) - b) % (N : Int) = (((N - b + a) % N : Nat) : Int) := by
  have e : ((a : Int) - b) = ((N - b + a : Nat) : Int) - N := by omega
  rw [e, Int.sub_emod_right]; simp
theorem wrap8_sub (x y : UInt8) : IntKind.u8.wrap ((x.toNat : Int) - y.toNat) = ((x - y).toNat : Int) := by
  rw [wrap_u _ rfl, UInt8.toNat_sub]; exact sub_mod_aux (2 ^ 8) _ _ y.toNat_lt
theorem wrap32_sub (x y : UInt32) : IntKind.u32.wrap ((x.toNat : Int) - y.toNat) = ((x - y).toNat : Int) := by
  rw [wrap_u _ rfl, UInt32.toNat_sub]; exact sub_mod_aux (2 ^ 32) _ _ y.toNat_lt
theorem wrap64_sub (x y : UInt64) : IntKind.u64.wrap ((x.toNat : Int) - y.toNat) = ((x - y).toNat : Int) := by
  rw [wrap_u _ rfl, UInt64.toNat_sub]; exact sub_mod_aux (2 ^ 64) _ _ y.toNat_lt

theorem bits_nat (k : IntKind) (hk : k.signed = false) (r : BitVec k.bits) : k.wrap (r.toNat : Int) = (r.toNat : Int) := by
  rw [wrap_u_nat k hk, Nat.mod_eq_of_lt r.isLt]

section
variable {P : Program} {l : Env} {d : Nat} {ty : TypeId} {pos : String} {af : Array Edge} {T U : TypeId} {x y : Operand}
theorem pv_add8 {a b : UInt8} (hx : ev l x = some (b8 a)) (hy : ev l y = some (b8 b)) : PV P l ⟨some d, .binOp .add T x y U, ty, pos, af, none⟩ (b8 (a + b)) := pv_bin hx hy fun w => by simp only [binOp, Op.intArith, ne_eq, not_true, if_false, wrap8_add]; rfl
theorem pv_add32 {a b : UInt32} (hx : ev l x = some (w32 a)) (hy : ev l y = some (w32 b)) : PV P l ⟨some d, .binOp .add T x y U, ty, pos, af, none⟩ (w32 (a + b)) := pv_bin hx hy fun w => by simp only [binOp, Op.intArith, ne_eq, not_true, if_false, wrap32_add]; rfl
theorem pv_add64 {a b : UInt64} (hx : ev l x = some (w64 a)) (hy : ev l y = some (w64 b)) : PV P l ⟨some d, .binOp .add T x y U, ty, pos, af, none⟩ (w64 (a + b)) := pv_bin hx hy fun w => by simp only [binOp, Op.intArith, ne_eq, not_true, if_false, wrap64_add]; rfl
theorem pv_sub8 {a b : UInt8} (hx : ev l x = some (b8 a)) (hy : ev l y = some (b8 b)) : PV P l ⟨some d, .binOp .sub T x y U, ty, pos, af, none⟩ (b8 (a - b)) := pv_bin hx hy fun w => by simp only [binOp, Op.intArith, ne_eq, not_true, if_false, wrap8_sub]; rfl
theorem pv_sub32 {a b : UInt32} (hx : ev l x = some (w32 a)) (hy : ev l y = some (w32 b)) : PV P l ⟨some d, .binOp .sub T x y U, ty, pos, af, none⟩ (w32 (a - b)) := pv_bin hx hy fun w => by simp only [binOp, Op.intArith, ne_eq, not_true, if_false, wrap32_sub]; rfl
theorem pv_sub64 {a b : UInt64} (hx : ev l x = some (w64 a)) (hy : ev l y = some (w64 b)) : PV P l ⟨some d, .binOp .sub T x y U, ty, pos, af, none⟩ (w64 (a - b)) := pv_bin hx hy fun w => by simp only [binOp, Op.intArith, ne_eq, not_true, if_false, wrap64_sub]; rfl
theorem pv_mul8 {a b : UInt8} (hx : ev l x = some (b8 a)) (hy : ev l y = some (b8 b)) : PV P l ⟨some d, .binOp .mul T x y U, ty, pos, af, none⟩ (b8 (a * b)) := pv_bin hx hy fun w => by simp only [binOp, Op.intArith, ne_eq, not_true, if_false, wrap8_mul]; rfl
theorem pv_mul32 {a b : UInt32} (hx : ev l x = some (w32 a)) (hy : ev l y = some (w32 b)) : PV P l ⟨some d, .binOp .mul T x y U, ty, pos, af, none⟩ (w32 (a * b)) := pv_bin hx hy fun w => by simp only [binOp, Op.intArith, ne_eq, not_true, if_false, wrap32_mul]; rfl
theorem pv_mul64 {a b : UInt64} (hx : ev l x = some (w64 a)) (hy : ev l y = some (w64 b)) : PV P l ⟨some d, .binOp .mul T x y U, ty, pos, af, none⟩ (w64 (a * b)) := pv_bin hx hy fun w => by simp only [binOp, Op.intArith, ne_eq, not_true, if_false, wrap64_mul]; rfl


theorem pv_bits {k : IntKind} {o : BinOp} {a b : Int} {m : Int} (hx : ev l x = some (.int k a)) (hy : ev l y = some (.int k b)) (ho : o = .and ∨ o = .or ∨ o = .xor)
    (h : k.wrap ((match o with | .and => BitVec.ofInt k.bits a &&& BitVec.ofInt k.bits b | .or => BitVec.ofInt k.bits a ||| BitVec.ofInt k.bits b | _ => BitVec.ofInt k.bits a ^^^ BitVec.ofInt k.bits b).toNat : Int) = m) :
    PV P l ⟨some d, .binOp o T x y U, ty, pos, af, none⟩ (.int k m) := pv_bin hx hy fun w => by
  subst h
  rcases ho with rfl | rfl | rfl <;> simp only [binOp, Op.intBits, ne_eq, not_true, if_false] <;> rfl
theorem bv8 (a : UInt8) : BitVec.ofInt 8 (a.toNat : Int) = a.toBitVec := by apply BitVec.eq_of_toNat_eq; simp
theorem bv32 (a : UInt32) : BitVec.ofInt 32 (a.toNat : Int) = a.toBitVec := by apply BitVec.eq_of_toNat_eq; simp
theorem bv64 (a : UInt64) : BitVec.ofInt 64 (a.toNat : Int) = a.toBitVec := by apply BitVec.eq_of_toNat_eq; simp

theorem pv_and8 {a b : UInt8} (hx : ev l x = some (b8 a)) (hy : ev l y = some (b8 b)) : PV P l ⟨some d, .binOp .and T x y U, ty, pos, af, none⟩ (b8 (a &&& b)) := pv_bits hx hy (.inl rfl) (by
  show IntKind.u8.wrap ((BitVec.ofInt 8 (a.toNat : Int) &&& BitVec.ofInt 8 (b.toNat : Int)).toNat : Int) = _; rw [bv8, bv8]; exact bits_nat .u8 rfl _)
theorem pv_or8 {a b : UInt8} (hx : ev l x = some (b8 a)) (hy : ev l y = some (b8 b)) : PV P l ⟨some d, .binOp .or T x y U, ty, pos, af, none⟩ (b8 (a ||| b)) := pv_bits hx hy (.inr (.inl rfl)) (by
  show IntKind.u8.wrap ((BitVec.ofInt 8 (a.toNat : Int) ||| BitVec.ofInt 8 (b.toNat : Int)).toNat : Int) = _; rw [bv8, bv8]; exact bits_nat .u8 rfl _)
theorem pv_xor8 {a b : UInt8} (hx : ev l x = some (b8 a)) (hy : ev l y = some (b8 b)) : PV P l ⟨some d, .binOp .xor T x y U, ty, pos, af, none⟩ (b8 (a ^^^ b)) := pv_bits hx hy (.inr (.inr rfl)) (by
  show IntKind.u8.wrap ((BitVec.ofInt 8 (a.toNat : Int) ^^^ BitVec.ofInt 8 (b.toNat : Int)).toNat : Int) = _; rw [bv8, bv8]; exact bits_nat .u8 rfl _)
theorem pv_and32 {a b : UInt32} (hx : ev l x = some (w32 a)) (hy : ev l y = some (w32 b)) : PV P l ⟨some d, .binOp .and T x y U, ty, pos, af, none⟩ (w32 (a &&& b)) := pv_bits hx hy (.inl rfl) (by
  show IntKind.u32.wrap ((BitVec.ofInt 32 (a.toNat : Int) &&& BitVec.ofInt 32 (b.toNat : Int)).toNat : Int) = _; rw [bv32, bv32]; exact bits_nat .u32 rfl _)
theorem pv_or32 {a b : UInt32} (hx : ev l x = some (w32 a)) (hy : ev l y = some (w32 b)) : PV P l ⟨some d, .binOp .or T x y U, ty, pos, af, none⟩ (w32 (a ||| b)) := pv_bits hx hy (.inr (.inl rfl)) (by
  show IntKind.u32.wrap ((BitVec.ofInt 32 (a.toNat : Int) ||| BitVec.ofInt 32 (b.toNat : Int)).toNat : Int) = _; rw [bv32, bv32]; exact bits_nat .u32 rfl _)
theorem pv_xor32 {a b : UInt32} (hx : ev l x = some (w32 a)) (hy : ev l y = some (w32 b)) : PV P l ⟨some d, .binOp .xor T x y U, ty, pos, af, none⟩ (w32 (a ^^^ b)) := pv_bits hx hy (.inr (.inr rfl)) (by
  show IntKind.u32.wrap ((BitVec.ofInt 32 (a.toNat : Int) ^^^ BitVec.ofInt 32 (b.toNat : Int)).toNat : Int) = _; rw [bv32, bv32]; exact bits_nat .u32 rfl _)
theorem pv_and64 {a b : UInt64} (hx : ev l x = some (w64 a)) (hy : ev l y = some (w64 b)) : PV P l ⟨some d, .binOp .and T x y U, ty, pos, af, none⟩ (w64 (a &&& b)) := pv_bits hx hy (.inl rfl) (by
  show IntKind.u64.wrap ((BitVec.ofInt 64 (a.toNat : Int) &&& BitVec.ofInt 64 (b.toNat : Int)).toNat : Int) = _; rw [bv64, bv64]; exact bits_nat .u64 rfl _)
theorem pv_or64 {a b : UInt64} (hx : ev l x = some (w64 a)) (hy : ev l y = some (w64 b)) : PV P l ⟨some d, .binOp .or T x y U, ty, pos, af, none⟩ (w64 (a ||| b)) := pv_bits hx hy (.inr (.inl rfl)) (by
  show IntKind.u64.wrap ((BitVec.ofInt 64 (a.toNat : Int) ||| BitVec.ofInt 64 (b.toNat : Int)).toNat : Int) = _; rw [bv64, bv64]; exact bits_nat .u64 rfl _)
theorem pv_xor64 {a b : UInt64} (hx : ev l x = some (w64 a)) (hy : ev l y = some (w64 b)) : PV P l ⟨some d, .binOp .xor T x y U, ty, pos, af, none⟩ (w64 (a ^^^ b)) := pv_bits hx hy (.inr (.inr rfl)) (by
  show IntKind.u64.wrap ((BitVec.ofInt 64 (a.toNat : Int) ^^^ BitVec.ofInt 64 (b.toNat : Int)).toNat : Int) = _; rw [bv64, bv64]; exact bits_nat .u64 rfl _)

-- shifts by a known count
theorem pv_shl {k yk : IntKind} {a m : Int} {c : Nat} (hx : ev l x = some (.int k a)) (hy : ev l y = some (.int yk (c : Int))) (h : k.wrap (a * 2 ^ (min c k.bits)) = m) :
    PV P l ⟨some d, .binOp .shl T x y U, ty, pos, af, none⟩ (.int k m) := ⟨rfl, fun ρ hρ w => by
  subst h
  have hc : ¬ ((c : Int) < 0) := by omega
  simp [execOp, hρ _ _ hx, hρ _ _ hy, eqGuard, binOp, Op.shift, hc]⟩
theorem pv_shr {k yk : IntKind} {a m : Int} {c : Nat} (hx : ev l x = some (.int k a)) (hy : ev l y = some (.int yk (c : Int))) (h : a.fdiv (2 ^ (min c k.bits)) = m) :
    PV P l ⟨some d, .binOp .shr T x y U, ty, pos, af, none⟩ (.int k m) := ⟨rfl, fun ρ hρ w => by
  subst h
  have hc : ¬ ((c : Int) < 0) := by omega
  simp [execOp, hρ _ _ hx, hρ _ _ hy, eqGuard, binOp, Op.shift, hc]⟩
theorem fdiv_pow (a n : Nat) : Int.fdiv (a : Int) (2 ^ n) = ((a >>> n : Nat) : Int) := by
  rw [Int.fdiv_eq_ediv_of_nonneg _ (by exact Int.le_of_lt (Int.pow_pos (by decide))), Nat.shiftRight_eq_div_pow]; simp
theorem mul_pow (k : IntKind) (hk : k.signed = false) (a n : Nat) : k.wrap ((a : Int) * 2 ^ n) = ((a <<< n % 2 ^ k.bits : Nat) : Int) := by
  have : ((a : Int) * 2 ^ n) = ((a <<< n : Nat) : Int) := by rw [Nat.shiftLeft_eq]; simp
  rw [this, wrap_u_nat k hk]
theorem pv_shr32 {yk : IntKind} {a : UInt32} {c : Nat} (hx : ev l x = some (w32 a)) (hy : ev l y = some (.int yk (c : Int))) (hc : c < 32) : PV P l ⟨some d, .binOp .shr T x y U, ty, pos, af, none⟩ (w32 (a >>> UInt32.ofNat c)) :=
  pv_shr hx hy (by
    rw [show min c IntKind.u32.bits = c from Nat.min_eq_left (Nat.le_of_lt hc), fdiv_pow, UInt32.toNat_shiftRight, UInt32.toNat_ofNat', Nat.mod_eq_of_lt (show c < 2 ^ 32 by omega), Nat.mod_eq_of_lt hc])
theorem pv_shl32 {yk : IntKind} {a : UInt32} {c : Nat} (hx : ev l x = some (w32 a)) (hy : ev l y = some (.int yk (c : Int))) (hc : c < 32) : PV P l ⟨some d, .binOp .shl T x y U, ty, pos, af, none⟩ (w32 (a <<< UInt32.ofNat c)) :=
  pv_shl hx hy (by
    rw [show min c IntKind.u32.bits = c from Nat.min_eq_left (Nat.le_of_lt hc), mul_pow _ rfl, UInt32.toNat_shiftLeft, UInt32.toNat_ofNat', Nat.mod_eq_of_lt (show c < 2 ^ 32 by omega), Nat.mod_eq_of_lt hc]; rfl)
theorem pv_shr64 {yk : IntKind} {a : UInt64} {c : Nat} (hx : ev l x = some (w64 a)) (hy : ev l y = some (.int yk (c : Int))) (hc : c < 64) : PV P l ⟨some d, .binOp .shr T x y U, ty, pos, af, none⟩ (w64 (a >>> UInt64.ofNat c)) :=
  pv_shr hx hy (by
    rw [show min c IntKind.u64.bits = c from Nat.min_eq_left (Nat.le_of_lt hc), fdiv_pow, UInt64.toNat_shiftRight, UInt64.toNat_ofNat', Nat.mod_eq_of_lt (show c < 2 ^ 64 by omega), Nat.mod_eq_of_lt hc])
theorem pv_shl64 {yk : IntKind} {a : UInt64} {c : Nat} (hx : ev l x = some (w64 a)) (hy : ev l y = some (.int yk (c : Int))) (hc : c < 64) : PV P l ⟨some d, .binOp .shl T x y U, ty, pos, af, none⟩ (w64 (a <<< UInt64.ofNat c)) :=
  pv_shl hx hy (by
    rw [show min c IntKind.u64.bits = c from Nat.min_eq_left (Nat.le_of_lt hc), mul_pow _ rfl, UInt64.toNat_shiftLeft, UInt64.toNat_ofNat', Nat.mod_eq_of_lt (show c < 2 ^ 64 by omega), Nat.mod_eq_of_lt hc]; rfl)
theorem pv_shr8 {yk : IntKind} {a : UInt8} {c : Nat} (hx : ev l x = some (b8 a)) (hy : ev l y = some (.int yk (c : Int))) (hc : c < 8) : PV P l ⟨some d, .binOp .shr T x y U, ty, pos, af, none⟩ (b8 (a >>> UInt8.ofNat c)) :=
  pv_shr hx hy (by
    rw [show min c IntKind.u8.bits = c from Nat.min_eq_left (Nat.le_of_lt hc), fdiv_pow, UInt8.toNat_shiftRight, UInt8.toNat_ofNat', Nat.mod_eq_of_lt (show c < 2 ^ 8 by omega), Nat.mod_eq_of_lt hc])
theorem pv_shl8 {yk : IntKind} {a : UInt8} {c : Nat} (hx : ev l x = some (b8 a)) (hy : ev l y = some (.int yk (c : Int))) (hc : c < 8) : PV P l ⟨some d, .binOp .shl T x y U, ty, pos, af, none⟩ (b8 (a <<< UInt8.ofNat c)) :=
  pv_shl hx hy (by
    rw [show min c IntKind.u8.bits = c from Nat.min_eq_left (Nat.le_of_lt hc), mul_pow _ rfl, UInt8.toNat_shiftLeft, UInt8.toNat_ofNat', Nat.mod_eq_of_lt (show c < 2 ^ 8 by omega), Nat.mod_eq_of_lt hc]; rfl)


def shr32 (a : UInt32) (c : Nat) : UInt32 := if c < 32 then a >>> UInt32.ofNat c else 0
def shr64 (a : UInt64) (c : Nat) : UInt64 := if c < 64 then a >>> UInt64.ofNat c else 0
def shl64 (a : UInt64) (c : Nat) : UInt64 := if c < 64 then a <<< UInt64.ofNat c else 0
theorem pv_shr32g {yk : IntKind} {a : UInt32} {c : Nat} (hx : ev l x = some (w32 a)) (hy : ev l y = some (.int yk (c : Int))) : PV P l ⟨some d, .binOp .shr T x y U, ty, pos, af, none⟩ (w32 (shr32 a c)) := by
  unfold shr32
  by_cases h : c < 32
  · rw [if_pos h]; exact pv_shr32 hx hy h
  · rw [if_neg h]
    refine pv_shr hx hy ?_
    rw [show min c IntKind.u32.bits = 32 from Nat.min_eq_right (show 32 ≤ c by omega), fdiv_pow, Nat.shiftRight_eq_div_pow, Nat.div_eq_of_lt a.toNat_lt]; rfl
theorem pv_shr64g {yk : IntKind} {a : UInt64} {c : Nat} (hx : ev l x = some (w64 a)) (hy : ev l y = some (.int yk (c : Int))) : PV P l ⟨some d, .binOp .shr T x y U, ty, pos, af, none⟩ (w64 (shr64 a c)) := by
  unfold shr64
  by_cases h : c < 64
  · rw [if_pos h]; exact pv_shr64 hx hy h
  · rw [if_neg h]
    refine pv_shr hx hy ?_
    rw [show min c IntKind.u64.bits = 64 from Nat.min_eq_right (show 64 ≤ c by omega), fdiv_pow, Nat.shiftRight_eq_div_pow, Nat.div_eq_of_lt a.toNat_lt]; rfl
theorem pv_shl64g {yk : IntKind} {a : UInt64} {c : Nat} (hx : ev l x = some (w64 a)) (hy : ev l y = some (.int yk (c : Int))) : PV P l ⟨some d, .binOp .shl T x y U, ty, pos, af, none⟩ (w64 (shl64 a c)) := by
  unfold shl64
  by_cases h : c < 64
  · rw [if_pos h]; exact pv_shl64 hx hy h
  · rw [if_neg h]
    refine pv_shl hx hy ?_
    rw [show min c IntKind.u64.bits = 64 from Nat.min_eq_right (show 64 ≤ c by omega), mul_pow _ rfl, Nat.shiftLeft_eq, show IntKind.u64.bits = 64 from rfl, Nat.mul_mod_left]; rfl

-- conversions between whole numbers
theorem pv_conv {k k2 : IntKind} {n m : Int} {S D : TypeId} (hs : (P.underlying S).isSome = true) (hd : P.underlying D = some (.int k2)) (hx : ev l x = some (.int k n)) (hm : k2.wrap n = m) :
    PV P l ⟨some d, .convert S D x, ty, pos, af, none⟩ (.int k2 m) := ⟨rfl, fun ρ hρ w => by
  obtain ⟨u, hu⟩ := Option.isSome_iff_exists.1 hs
  subst hm
  simp [execOp, hρ _ _ hx, convert, run_underlying hu, run_underlying hd, Conv.intToInt]⟩
theorem cv_8_32 (a : UInt8) : IntKind.u32.wrap (a.toNat : Int) = (a.toUInt32.toNat : Int) := by rw [wrap_u_nat _ rfl]; simp; have := a.toNat_lt; simp only [IntKind.bits]; omega
theorem cv_8_64 (a : UInt8) : IntKind.u64.wrap (a.toNat : Int) = (a.toUInt64.toNat : Int) := by rw [wrap_u_nat _ rfl]; simp; have := a.toNat_lt; simp only [IntKind.bits]; omega
theorem cv_32_64 (a : UInt32) : IntKind.u64.wrap (a.toNat : Int) = (a.toUInt64.toNat : Int) := by rw [wrap_u_nat _ rfl]; simp; have := a.toNat_lt; simp only [IntKind.bits]; omega
theorem cv_8_i (a : UInt8) : IntKind.i64.wrap (a.toNat : Int) = (a.toNat : Int) := by have := a.toNat_lt; exact wrap_i64 (by omega) (by omega)
theorem cv_16_i (a : UInt16) : IntKind.i64.wrap (a.toNat : Int) = (a.toNat : Int) := by have := a.toNat_lt; exact wrap_i64 (by omega) (by omega)
theorem cv_32_i (a : UInt32) : IntKind.i64.wrap (a.toNat : Int) = (a.toNat : Int) := by have := a.toNat_lt; exact wrap_i64 (by omega) (by omega)
theorem cv_64_i (a : UInt64) (h : a.toNat ≤ 9223372036854775807) : IntKind.i64.wrap (a.toNat : Int) = (a.toNat : Int) := wrap_i64 (by omega) (by omega)
theorem cv_64_8 (a : UInt64) : IntKind.u8.wrap (a.toNat : Int) = (a.toUInt8.toNat : Int) := by rw [wrap_u_nat _ rfl]; simp [IntKind.bits]
theorem cv_32_8 (a : UInt32) : IntKind.u8.wrap (a.toNat : Int) = (a.toUInt8.toNat : Int) := by rw [wrap_u_nat _ rfl]; simp [IntKind.bits]
theorem cv_64_32 (a : UInt64) : IntKind.u32.wrap (a.toNat : Int) = (a.toUInt32.toNat : Int) := by rw [wrap_u_nat _ rfl]; simp [IntKind.bits]
theorem cv_i_64 (a : Nat) : IntKind.u64.wrap (a : Int) = ((UInt64.ofNat a).toNat : Int) := by rw [wrap_u_nat _ rfl, UInt64.toNat_ofNat']; rfl
theorem cv_i_32 (a : Nat) : IntKind.u32.wrap (a : Int) = ((UInt32.ofNat a).toNat : Int) := by rw [wrap_u_nat _ rfl, UInt32.toNat_ofNat']; rfl
theorem cv_i_8 (a : Nat) : IntKind.u8.wrap (a : Int) = ((UInt8.ofNat a).toNat : Int) := by rw [wrap_u_nat _ rfl, UInt8.toNat_ofNat']; rfl
theorem cv_i_i (n : Int) (h : -9223372036854775808 ≤ n ∧ n ≤ 9223372036854775807) : IntKind.i64.wrap n = n := wrap_i64 h.1 h.2
theorem cv_64_64 (a : UInt64) : IntKind.u64.wrap (a.toNat : Int) = (a.toNat : Int) := by rw [wrap_u_nat _ rfl, Nat.mod_eq_of_lt (show a.toNat < 2 ^ IntKind.u64.bits from a.toNat_lt)]
end
end Go.Eng
namespace Go.Eng
open Go Go.RowKit

/-- From w to w' no block that was there has turned, but those that M lets. -/
structure Fr (M : Nat → Prop) (w w' : World) : Prop where
  os : w'.os = w.os
  tape : w'.tape = w.tape
  output : w'.output = w.output
  size : w.heap.size ≤ w'.heap.size
  block : ∀ k, k < w.heap.size → ¬ M k → w'.heap[k]? = w.heap[k]?
def No : Nat → Prop := fun _ => False
theorem Fr.refl {M : Nat → Prop} (w : World) : Fr M w w := ⟨rfl, rfl, rfl, Nat.le_refl _, fun _ _ _ => rfl⟩
theorem Fr.trans {M N : Nat → Prop} {a b c : World} (h : Fr M a b) (k : Fr N b c) (hN : ∀ i, i < a.heap.size → N i → M i) : Fr M a c :=
  ⟨k.os.trans h.os, k.tape.trans h.tape, k.output.trans h.output, Nat.le_trans h.size k.size, fun i hi hm =>
    (k.block i (Nat.lt_of_lt_of_le hi h.size) (fun hn => hm (hN i hi hn))).trans (h.block i hi hm)⟩
theorem Fr.mono {M N : Nat → Prop} {a b : World} (h : Fr M a b) (hN : ∀ i, i < a.heap.size → M i → N i) : Fr N a b :=
  ⟨h.os, h.tape, h.output, h.size, fun i hi hm => h.block i hi (fun hn => hm (hN i hi hn))⟩
theorem Fr.no {M : Nat → Prop} {a b : World} (h : Fr No a b) : Fr M a b := h.mono fun _ _ h => h.elim
theorem Fr.drew {M : Nat → Prop} (w : World) : Fr M w w.drew := ⟨rfl, rfl, rfl, Nat.le_refl _, fun _ _ _ => rfl⟩
theorem Fr.drewN {M : Nat → Prop} (w : World) (n : Nat) : Fr M w (w.drewN n) := ⟨rfl, rfl, rfl, Nat.le_refl _, fun _ _ _ => rfl⟩
theorem Fr.alloc {M : Nat → Prop} (w : World) (o : Obj) : Fr M w (w.alloc o) := ⟨rfl, rfl, rfl, by simp, fun _ hk _ => heap_alloc_old w o hk⟩
theorem Fr.setRow {M : Nat → Prop} (w : World) (g : Nat) (cs : Array Value) (hM : M g) : Fr M w (w.setRow g cs) := by
  refine ⟨rfl, rfl, rfl, by simp [World.setRow], fun k _ hm => ?_⟩
  have : g ≠ k := fun e => hm (e ▸ hM)
  simp [World.setRow, Array.getElem?_modify, this]
theorem Fr.below {w w' : World} (h : Fr No w w') : Below w.heap.size w w' := ⟨h.os, h.tape, h.output, h.size, fun k hk => h.block k hk (fun h => h)⟩
theorem Fr.ofBelow {w w' : World} (h : Below w.heap.size w w') : Fr No w w' := ⟨h.os, h.tape, h.output, h.size, fun k hk _ => h.block k hk⟩
theorem Fr.cell {M : Nat → Prop} {w w' : World} (h : Fr M w w') {a : Addr} (ha : a.block < w.heap.size) (hm : ¬ M a.block) : w'.cell? a = w.cell? a := World.cell?_of_block (h.block _ ha hm)
theorem Fr.cellS {M : Nat → Prop} {w w' : World} (h : Fr M w w') {a : Addr} {v : Value} (hc : w.cell? a = some v) (hm : ¬ M a.block) : w'.cell? a = some v := (h.cell (World.block_lt_of_cell? w a hc) hm).trans hc

/-- No cell of the row is marked. -/
def fzOk (n : Nat) (fz : Nat × Nat) : Prop := fz = (0, 0) ∨ n ≤ fz.1
theorem fzOk.free {n i : Nat} {fz : Nat × Nat} (h : fzOk n fz) (hi : i < n) : (decide (fz.1 ≤ i) && decide (i < fz.2)) = false := by
  rcases h with rfl | h
  · simp
  · simp; omega

/-- Block b is the cells cs. -/
def Bk (w : World) (b : Nat) (t : TypeId) (cs : List Value) : Prop := ∃ fz, w.heap[b]? = some (.cells cs.toArray t fz) ∧ fzOk cs.length fz
theorem Bk.lt {w : World} {b : Nat} {t : TypeId} {cs : List Value} (h : Bk w b t cs) : b < w.heap.size := by
  obtain ⟨fz, h, _⟩ := h
  exact (Array.getElem?_eq_some_iff.1 h).1
theorem Bk.cell {w : World} {b : Nat} {t : TypeId} {cs : List Value} (h : Bk w b t cs) (i : Nat) : w.cell? ⟨b, i, none⟩ = cs[i]? := by
  obtain ⟨fz, h, _⟩ := h
  rw [cell_of_row w b i _ t fz h]; simp
theorem Bk.free {w : World} {b : Nat} {t : TypeId} {cs : List Value} (h : Bk w b t cs) {i : Nat} (hi : i < cs.length) : w.frozen? ⟨b, i, none⟩ = false := by
  obtain ⟨fz, h, hf⟩ := h
  have := hf.free hi
  unfold World.frozen?
  rw [h]; exact this
theorem Bk.fr {M : Nat → Prop} {w w' : World} {b : Nat} {t : TypeId} {cs : List Value} (h : Bk w b t cs) (hf : Fr M w w') (hm : ¬ M b) : Bk w' b t cs := by
  obtain ⟨fz, h1, h2⟩ := h
  exact ⟨fz, (hf.block b (Array.getElem?_eq_some_iff.1 h1).1 hm).trans h1, h2⟩
theorem Bk.set {w : World} {b : Nat} {t : TypeId} {cs cs' : List Value} (h : Bk w b t cs) (hl : cs'.length = cs.length) : Bk (w.setRow b cs'.toArray) b t cs' := by
  obtain ⟨fz, h1, h2⟩ := h
  exact ⟨fz, setRow_heap w b _ _ t fz h1, by rw [hl]; exact h2⟩
theorem Bk.new (w : World) (t : TypeId) (cs : List Value) : Bk (w.alloc (.cells cs.toArray t)) w.heap.size t cs := ⟨(0, 0), heap_alloc_new w _, .inl rfl⟩

/-- A slice value that owns its row: nil, or from the head of a block that holds the elements and then spare cells. -/
def Rw (w : World) (v : Value) (t : TypeId) (sz : Nat) (xs : List Value) : Prop :=
  (v = .slice none 0 0 ∧ xs = []) ∨
  ∃ b n cap sp, v = .slice (some ⟨b, 0, none⟩) n cap ∧ Bk w b t (xs ++ sp) ∧ xs.length = n * sz ∧ n ≤ cap ∧ cap ≤ maxLen ∧ (xs ++ sp).length = cap * sz

inductive Ent
  | blk (b : Nat) (t : TypeId) (cs : List Value)
  | row (v : Value) (t : TypeId) (sz : Nat) (xs : List Value)
  | ro (v : Value) (sz : Nat) (xs : List Value)
  | obj (b : Nat) (o : Obj)
/-- A slice that is read: its elements' cells, whatever memory they lie in. -/
def Rs (w : World) (v : Value) (sz : Nat) (xs : List Value) : Prop :=
  ∃ A m c, v = .slice A m c ∧ m ≤ c ∧ c ≤ maxLen ∧ xs.length = m * sz ∧ (xs = [] ∨ ∃ b o, A = some ⟨b, o, none⟩ ∧ ∀ j u, xs[j]? = some u → w.cell? ⟨b, o + j, none⟩ = some u)
theorem Rs.fr {M : Nat → Prop} {w w' : World} {v : Value} {sz : Nat} {xs : List Value} (h : Rs w v sz xs) (hf : Fr M w w') (hm : ∀ b, v.ownBlock = some b → ¬ M b) : Rs w' v sz xs := by
  obtain ⟨A, m, c, rfl, h1, h2, h3, h4⟩ := h
  refine ⟨A, m, c, rfl, h1, h2, h3, ?_⟩
  rcases h4 with h4 | ⟨b, o, rfl, h4⟩
  · exact .inl h4
  · exact .inr ⟨b, o, rfl, fun j u hu => hf.cellS (h4 j u hu) (hm b rfl)⟩
theorem Rs.no {w w' : World} {v : Value} {sz : Nat} {xs : List Value} (h : Rs w v sz xs) (hf : Fr No w w') : Rs w' v sz xs := h.fr hf (fun _ _ h => h)
def Ent.ok (w : World) : Ent → Prop
  | .blk b t cs => Bk w b t cs
  | .row v t sz xs => Rw w v t sz xs
  | .ro v sz xs => Rs w v sz xs ∧ ∀ b, v.ownBlock = some b → b < w.heap.size
  | .obj b o => w.heap[b]? = some o
def Ent.block : Ent → Option Nat
  | .blk b _ _ => some b
  | .row v _ _ _ => v.ownBlock
  | .ro v _ _ => v.ownBlock
  | .obj b _ => some b

theorem Rw.lt {w : World} {v : Value} {t : TypeId} {sz : Nat} {xs : List Value} (h : Rw w v t sz xs) {b : Nat} (hb : v.ownBlock = some b) : b < w.heap.size := by
  rcases h with ⟨rfl, _⟩ | ⟨g, n, cap, sp, rfl, hk, _⟩
  · simp [Value.ownBlock] at hb
  · simp [Value.ownBlock] at hb; subst hb; exact hk.lt
theorem Rw.fr {M : Nat → Prop} {w w' : World} {v : Value} {t : TypeId} {sz : Nat} {xs : List Value} (h : Rw w v t sz xs) (hf : Fr M w w') (hm : ∀ b, v.ownBlock = some b → ¬ M b) : Rw w' v t sz xs := by
  rcases h with ⟨rfl, h⟩ | ⟨g, n, cap, sp, rfl, hk, h⟩
  · exact .inl ⟨rfl, h⟩
  · exact .inr ⟨g, n, cap, sp, rfl, hk.fr hf (hm g rfl), h⟩
theorem Ent.lt {w : World} {e : Ent} (h : e.ok w) {b : Nat} (hb : e.block = some b) : b < w.heap.size := by
  cases e with
  | blk b' t cs => simp [Ent.block] at hb; subst hb; exact Bk.lt h
  | row v t sz xs => exact Rw.lt h hb
  | ro v sz xs => exact h.2 b hb
  | obj b' o => simp [Ent.block] at hb; subst hb; exact (Array.getElem?_eq_some_iff.1 h).1
theorem Ent.fr {M : Nat → Prop} {w w' : World} {e : Ent} (h : e.ok w) (hf : Fr M w w') (hm : ∀ b, e.block = some b → ¬ M b) : e.ok w' := by
  cases e with
  | blk b' t cs => exact Bk.fr h hf (hm b' rfl)
  | row v t sz xs => exact Rw.fr h hf hm
  | ro v sz xs => exact ⟨Rs.fr h.1 hf hm, fun b hb => Nat.lt_of_lt_of_le (h.2 b hb) hf.size⟩
  | obj b o => exact (hf.block b (Array.getElem?_eq_some_iff.1 h).1 (hm b rfl)).trans h

/-- The state of memory on the way: what the call may write, what it has of its own. -/
structure ST (w0 : World) (M : Nat → Prop) (w : World) (hp : List Ent) : Prop where
  fr : Fr M w0 w
  ok : ∀ e ∈ hp, e.ok w
  own : ∀ e ∈ hp, ∀ b, e.block = some b → w0.heap.size ≤ b ∨ M b
  sep : hp.Pairwise (fun e f => ∀ b, e.block = some b → f.block ≠ some b)

theorem ST.start (w : World) (M : Nat → Prop) : ST w M w [] := ⟨.refl _, by simp, by simp, .nil⟩
theorem ST.no {w0 w : World} {M : Nat → Prop} {hp : List Ent} (h : ST w0 M w hp) {w' : World} (hf : Fr No w w') : ST w0 M w' hp :=
  ⟨h.fr.trans hf (fun _ _ h => h.elim), fun e he => Ent.fr (h.ok e he) hf (fun _ _ h => h), h.own, h.sep⟩
theorem ST.drop {w0 w : World} {M : Nat → Prop} {e : Ent} {hp : List Ent} (h : ST w0 M w (e :: hp)) : ST w0 M w hp :=
  ⟨h.fr, fun e he => h.ok e (by simp [he]), fun e he => h.own e (by simp [he]), (List.pairwise_cons.1 h.sep).2⟩
theorem ST.add {w0 w w' : World} {M : Nat → Prop} {hp : List Ent} {e : Ent} (h : ST w0 M w hp) (hf : Fr No w w') (he : e.ok w') (hb : ∀ b, e.block = some b → w.heap.size ≤ b) : ST w0 M w' (e :: hp) := by
  have h' := h.no hf
  refine ⟨h'.fr, ?_, ?_, ?_⟩
  · intro x hx; rcases List.mem_cons.1 hx with rfl | hx
    · exact he
    · exact h'.ok x hx
  · intro x hx b hxb; rcases List.mem_cons.1 hx with rfl | hx
    · exact .inl (Nat.le_trans h.fr.size (hb b hxb))
    · exact h'.own x hx b hxb
  · refine List.pairwise_cons.2 ⟨fun f hf b hb1 hb2 => ?_, h'.sep⟩
    have h1 := hb b hb1
    have h2 := Ent.lt (h.ok f hf) hb2
    omega
theorem Bk.sn {w0 w : World} {M : Nat → Prop} {hp : List Ent} (h : ST w0 M w hp) (t : TypeId) (cs : List Value) : ST w0 M (w.alloc (.cells cs.toArray t)) (.blk w.heap.size t cs :: hp) :=
  h.add (.alloc w _) (Bk.new w t cs) (fun b hb => by simp [Ent.block] at hb; omega)
theorem ST.at_ {w0 w : World} {M : Nat → Prop} {hp : List Ent} (h : ST w0 M w hp) {k : Nat} {e : Ent} (hk : hp[k]? = some e) : e.ok w := h.ok e (List.mem_of_getElem? hk)
theorem ST.upd {w0 w w' : World} {M : Nat → Prop} {hp : List Ent} {k : Nat} {e e' : Ent} (h : ST w0 M w hp) (hk : hp[k]? = some e) (hf : Fr (fun b => e.block = some b) w w') (he : e'.ok w')
    (hb : ∀ b, e'.block = some b → e.block = some b ∨ w.heap.size ≤ b) : ST w0 M w' (hp.set k e') := by
  have hkl : k < hp.length := by
    rcases Nat.lt_or_ge k hp.length with h | h
    · exact h
    · rw [List.getElem?_eq_none h] at hk; cases hk
  have hke : hp[k] = e := by rw [List.getElem?_eq_getElem hkl] at hk; injection hk
  have hmem : e ∈ hp := hke ▸ List.getElem_mem hkl
  have hpw := List.pairwise_iff_getElem.1 h.sep
  have apart : ∀ (j : Nat) (hj : j < hp.length), j ≠ k → ∀ b, hp[j].block = some b → e.block ≠ some b := by
    intro j hj hjk b hb1 hb2
    rcases Nat.lt_or_gt_of_ne hjk with hlt | hgt
    · exact hpw j k hj hkl hlt b hb1 (by rw [hke]; exact hb2)
    · exact hpw k j hkl hj hgt b (by rw [hke]; exact hb2) hb1
  refine ⟨h.fr.trans hf (fun i hi hn => ?_), ?_, ?_, ?_⟩
  · rcases h.own e hmem i hn with h1 | h1
    · omega
    · exact h1
  · intro x hx
    obtain ⟨j, hj, rfl⟩ := List.getElem_of_mem hx
    have hj' : j < hp.length := by simpa using hj
    rw [List.getElem_set]
    split
    · exact he
    · rename_i hne
      exact Ent.fr (h.ok _ (List.getElem_mem hj')) hf (fun b hb => apart j hj' (fun e => hne e.symm) b hb)
  · intro x hx b hxb
    obtain ⟨j, hj, rfl⟩ := List.getElem_of_mem hx
    have hj' : j < hp.length := by simpa using hj
    rw [List.getElem_set] at hxb
    split at hxb
    · rcases hb b hxb with h1 | h1
      · exact h.own e hmem b h1
      · exact .inl (Nat.le_trans h.fr.size h1)
    · exact h.own _ (List.getElem_mem hj') b hxb
  · refine List.pairwise_iff_getElem.2 fun i j hi hj hij b hbi hbj => ?_
    have hi' : i < hp.length := by simpa using hi
    have hj' : j < hp.length := by simpa using hj
    rw [List.getElem_set] at hbi hbj
    by_cases h1 : k = i
    · subst h1
      have h2 : ¬ k = j := by omega
      rw [if_pos rfl] at hbi; rw [if_neg h2] at hbj
      rcases hb b hbi with h3 | h3
      · exact apart j hj' (fun e => h2 e.symm) b hbj h3
      · have := Ent.lt (h.ok _ (List.getElem_mem hj')) hbj; omega
    · rw [if_neg h1] at hbi
      by_cases h2 : k = j
      · subst h2
        rw [if_pos rfl] at hbj
        rcases hb b hbj with h3 | h3
        · exact apart i hi' (fun e => h1 e.symm) b hbi h3
        · have := Ent.lt (h.ok _ (List.getElem_mem hi')) hbi; omega
      · rw [if_neg h2] at hbj
        exact hpw i j hi' hj' hij b hbi hbj
theorem ST.cell {w0 w : World} {M : Nat → Prop} {hp : List Ent} (h : ST w0 M w hp) {k : Nat} {b : Nat} {t : TypeId} {cs : List Value} (hk : hp[k]? = some (.blk b t cs)) {i : Nat} {v : Value} (hv : cs[i]? = some v) : w.cell? ⟨b, i, none⟩ = some v :=
  (Bk.cell (h.at_ hk) i).trans hv

theorem Rw.rs {w : World} {v : Value} {t : TypeId} {sz : Nat} {xs : List Value} (h : Rw w v t sz xs) : Rs w v sz xs := by
  rcases h with ⟨rfl, rfl⟩ | ⟨g, n, cap, sp, rfl, hk, h1, h2, h3, h4⟩
  · exact ⟨none, 0, 0, rfl, Nat.le_refl _, by simp [maxLen], by simp, .inl rfl⟩
  · refine ⟨_, n, cap, rfl, h2, h3, h1, .inr ⟨g, 0, rfl, fun j u hu => ?_⟩⟩
    rw [hk.cell, Nat.zero_add]
    have : j < xs.length := by
      rcases Nat.lt_or_ge j xs.length with h | h
      · exact h
      · rw [List.getElem?_eq_none h] at hu; cases hu
    rw [List.getElem?_append_left this]; exact hu
/-- A slice of a block that is known whole. -/
theorem Bk.rs {w : World} {b : Nat} {t : TypeId} {cs : List Value} (h : Bk w b t cs) (o m c sz : Nat) (h1 : m ≤ c) (h2 : c ≤ maxLen) (h3 : o + m * sz ≤ cs.length) : Rs w (.slice (some ⟨b, o, none⟩) m c) sz ((cs.drop o).take (m * sz)) := by
  refine ⟨_, m, c, rfl, h1, h2, by simp; omega, .inr ⟨b, o, rfl, fun j u hu => ?_⟩⟩
  rw [h.cell]
  rw [List.getElem?_take] at hu
  split at hu
  · rw [List.getElem?_drop] at hu; exact hu
  · cases hu
end Go.Eng
namespace Go.Eng
open Go Go.RowKit

def oneT (P : Program) (T : TypeId) : Bool := match P.underlying T with
  | some (.struct _) | some (.array _ _) | none => false
  | some _ => true
def aggT (P : Program) (T : TypeId) : Option Nat := match P.underlying T with
  | some (.struct _) | some (.array _ _) => (P.info? T).map (·.size)
  | _ => none
def sizeT (P : Program) (T : TypeId) : Option Nat := (P.info? T).map (·.size)
def zeroT (P : Program) (T : TypeId) : Option (List Value) := (P.info? T).bind fun i => i.zero.map fun z => z.cells.toList
def slT (P : Program) (T : TypeId) : Option (TypeId × Nat × Nat) := match P.underlying T with
  | some (.slice e) => (P.info? e).map fun i => (e, i.size, i.bytes)
  | _ => none
def fldT (P : Program) (S : TypeId) (f : Nat) : Option Nat := match P.underlying S with
  | some (.struct fs) => (fs[f]?).bind fun x => (P.info? x.type).bind fun i => if i.size = 0 then none else some x.offset
  | _ => none
def arrT (P : Program) (T : TypeId) : Option (Nat × Nat) := match P.underlying T with
  | some (.array n e) => (P.info? e).map fun i => (n, i.size)
  | _ => none
/-- A field of a struct's value: where, how many cells, is it a struct or array itself. -/
def fvT (P : Program) (S : TypeId) (f : Nat) : Option (Nat × Nat × Bool) := match P.underlying S with
  | some (.struct fs) => (fs[f]?).bind fun x => (P.info? x.type).bind fun i => match P.underlying x.type with
    | some (.struct _) | some (.array _ _) => some (x.offset, i.size, true)
    | some _ => some (x.offset, i.size, false)
    | none => none
  | _ => none

theorem add0 (b o n : Nat) : (⟨b, o, none⟩ : Addr).add n = ⟨b, o + n, none⟩ := by unfold Addr.add; split <;> simp_all
theorem getElem?_lt {α : Type} {l : List α} {i : Nat} {v : α} (h : l[i]? = some v) : i < l.length := by
  rcases Nat.lt_or_ge i l.length with h' | h'
  · exact h'
  · rw [List.getElem?_eq_none h'] at h; cases h

section
variable {P : Program} {n : Md} {ops : Array Oper} {Q : QT} {rest : List Oper} {l : Env} {w w0 : World} {M : Nat → Prop} {hp : List Ent} {d : Nat} {ty : TypeId} {pos : String} {af : Array Edge} {v : Value} {T U : TypeId} {x y z : Operand}

-- loads
theorem rv_load {a : Addr} (hT : oneT P T = true) (hx : ev l x = some (.pointer (some a))) (hc : w.cell? a = some v) : RV P l w ⟨some d, .load T x, ty, pos, af, none⟩ v := ⟨rfl, fun ρ hρ => by
  unfold oneT at hT
  cases hu : P.underlying T with
  | none => simp [hu] at hT
  | some u =>
    have hag : (isAgg T).run P w = .ok false w := by
      cases u <;> simp_all [isAgg, run_underlying hu]
    simp [execOp, hρ _ _ hx, Instr.loadAt, Instr.sureAddr, loadVar, hag, hc]⟩
theorem run_loadAgg {b o : Nat} {cs : List Value} (hT : aggT P T = some cs.length) (hc : ∀ j u, cs[j]? = some u → w.cell? ⟨b, o + j, none⟩ = some u) : (loadVar T ⟨b, o, none⟩).run P w = .ok (.agg cs.toArray) w := by
  unfold aggT at hT
  have hl : (loadCells ⟨b, o, none⟩ cs.length).run P w = .ok cs.toArray w := run_loadCells_list (P := P) w _ cs (fun j u hu => by rw [add0]; exact hc j u hu)
  cases hu : P.underlying T with
  | none => simp [hu] at hT
  | some u =>
    rw [hu] at hT
    have hag : (isAgg T).run P w = .ok true w := by
      cases u <;> simp_all [isAgg, run_underlying hu]
    have hi : ∃ i, P.info? T = some i ∧ i.size = cs.length := by
      cases u <;> simp_all
    obtain ⟨i, hi, hs⟩ := hi
    simp [loadVar, hag, sizeOf, typeInfo, hi, hs, hl]
theorem rv_loadA {b o : Nat} {cs : List Value} (hT : aggT P T = some cs.length) (hx : ev l x = some (.pointer (some ⟨b, o, none⟩))) (hc : ∀ j u, cs[j]? = some u → w.cell? ⟨b, o + j, none⟩ = some u) :
    RV P l w ⟨some d, .load T x, ty, pos, af, none⟩ (.agg cs.toArray) := ⟨rfl, fun ρ hρ => by
  simp [execOp, hρ _ _ hx, Instr.loadAt, Instr.sureAddr, run_loadAgg hT hc]⟩
theorem rv_load_blk {k b i : Nat} {t : TypeId} {cs : List Value} (hS : ST w0 M w hp) (hT : oneT P T = true) (hx : ev l x = some (.pointer (some ⟨b, i, none⟩))) (hk : hp[k]? = some (.blk b t cs)) (hv : cs[i]? = some v) :
    RV P l w ⟨some d, .load T x, ty, pos, af, none⟩ v := rv_load hT hx (hS.cell hk hv)
/-- A whole block that is loaded. -/
theorem rv_load_all {k b : Nat} {t : TypeId} {cs : List Value} (hS : ST w0 M w hp) (hx : ev l x = some (.pointer (some ⟨b, 0, none⟩))) (hk : hp[k]? = some (.blk b t cs)) (hT : aggT P T = some cs.length) :
    RV P l w ⟨some d, .load T x, ty, pos, af, none⟩ (.agg cs.toArray) := rv_loadA hT hx (fun j u hu => by rw [Nat.zero_add]; exact hS.cell hk hu)
/-- A part of a block that is loaded. -/
theorem rv_load_part {k b i m : Nat} {t : TypeId} {cs : List Value} (hS : ST w0 M w hp) (hx : ev l x = some (.pointer (some ⟨b, i, none⟩))) (hk : hp[k]? = some (.blk b t cs)) (hT : aggT P T = some m) (hm : i + m ≤ cs.length) :
    RV P l w ⟨some d, .load T x, ty, pos, af, none⟩ (.agg ((cs.drop i).take m).toArray) := rv_loadA (by simp; rw [hT]; congr 1; omega) hx (fun j u hu => by
  rw [List.getElem?_take] at hu
  split at hu
  · rw [List.getElem?_drop] at hu; exact hS.cell hk hu
  · cases hu)

-- stores
theorem run_storeCells_bk (g o : Nat) (t : TypeId) : ∀ (vs : List Value) (i : Nat) (cs : List Value) (w : World), Bk w g t cs → o + i + vs.length ≤ cs.length → (∀ v ∈ vs, v.oneCell' = true) →
    (storeCells ⟨g, o, none⟩ vs i).run P w = .ok () (w.setRow g (cs.take (o + i) ++ vs ++ cs.drop (o + i + vs.length)).toArray)
  | [], i, cs, w, hg, _, _ => by
    obtain ⟨fz, h1, _⟩ := hg
    simp only [storeCells, List.append_nil, List.length_nil, Nat.add_zero, List.take_append_drop]
    rw [setRow_self w g cs.toArray t fz h1]
    rfl
  | v :: rest, i, cs, w, hg, hl, h1 => by
    have hi : o + i < cs.length := by simp at hl; omega
    have hcell : w.cell? ⟨g, o + i, none⟩ = some cs[o + i] := by rw [hg.cell]; simp [hi]
    have hfro : w.frozen? ⟨g, o + i, none⟩ = false := hg.free hi
    obtain ⟨fz, hh, hz⟩ := hg
    have hst : (store ((⟨g, o, none⟩ : Addr).add i) v).run P w = .ok () (w.setRow g (cs.set (o + i) v).toArray) := by
      rw [add0, run_store P w _ v _ (h1 v (by simp)), hcell]
      have := setCell_eq_setRow w g (o + i) cs.toArray t fz v hh
      simp [hfro, this]
    have hg' : Bk (w.setRow g (cs.set (o + i) v).toArray) g t (cs.set (o + i) v) := Bk.set ⟨fz, hh, hz⟩ (by simp)
    have ih := run_storeCells_bk g o t rest (i + 1) (cs.set (o + i) v) _ hg' (by simp at hl ⊢; omega) (fun x hx => h1 x (by simp [hx]))
    simp only [storeCells, Sem.run_bind, hst, Result.andThen_ok, ih, setRow_setRow]
    congr 3
    have e := list_seg_step cs (o + i) v rest (by simp at hl ⊢; omega)
    simpa [Nat.add_assoc] using e

theorem ST.setRow {k b : Nat} {t : TypeId} {cs cs' : List Value} (hS : ST w0 M w hp) (hk : hp[k]? = some (.blk b t cs)) (hl : cs'.length = cs.length) : ST w0 M (w.setRow b cs'.toArray) (hp.set k (.blk b t cs')) :=
  hS.upd hk (Fr.setRow w b _ rfl) (Bk.set (hS.at_ hk) hl) (fun _ h => .inl h)

theorem run_storeVar {k b i : Nat} {t : TypeId} {cs vs : List Value} (hS : ST w0 M w hp) (hk : hp[k]? = some (.blk b t cs)) (hT : sizeT P T = some vs.length) (hv : v.cells = vs.toArray) (h1 : ∀ u ∈ vs, u.oneCell' = true) (hi : i + vs.length ≤ cs.length) :
    (storeVar T ⟨b, i, none⟩ v).run P w = .ok () (w.setRow b (cs.take i ++ vs ++ cs.drop (i + vs.length)).toArray) := by
  unfold sizeT at hT
  obtain ⟨j, hj, hs⟩ := Option.map_eq_some_iff.1 hT
  have := run_storeCells_bk (P := P) b i t vs 0 cs w (hS.at_ hk) (by simpa using hi) h1
  simp only [Nat.add_zero] at this
  simp [storeVar, hv, sizeOf, typeInfo, hj, hs, this]

/-- A store of one cell. -/
theorem WL.store {k b i : Nat} {t : TypeId} {cs : List Value} (hS : ST w0 M w hp) (hT : sizeT P T = some 1) (hx : ev l x = some (.pointer (some ⟨b, i, none⟩))) (hy : ev l y = some v) (hk : hp[k]? = some (.blk b t cs)) (hv : v.oneCell' = true) (hi : i < cs.length)
    (K : ∀ w', ST w0 M w' (hp.set k (.blk b t (cs.set i v))) → WL P n ops Q rest l w') : WL P n ops Q (⟨none, .store T x y, ty, pos, af, none⟩ :: rest) l w := by
  have hcells : v.cells = [v].toArray := by cases v <;> simp_all [Value.cells, Value.oneCell']
  have h := run_storeVar (P := P) (T := T) (i := i) (vs := [v]) hS hk hT hcells (by simpa using hv) (by simp; omega)
  have e : cs.take i ++ [v] ++ cs.drop (i + [v].length) = cs.set i v := by
    rw [List.set_eq_take_append_cons_drop, if_pos hi]; simp
  rw [e] at h
  refine WL.ws (w' := w.setRow b (cs.set i v).toArray) (fun ρ hρ => ?_) (K _ (hS.setRow hk (by simp)))
  simp [execOp, hρ _ _ hx, hρ _ _ hy, Instr.storeAt, Instr.sureAddr, h]
/-- A store of a struct's or an array's value. -/
theorem WL.storeA {k b i : Nat} {t : TypeId} {cs vs : List Value} (hS : ST w0 M w hp) (hT : sizeT P T = some vs.length) (hx : ev l x = some (.pointer (some ⟨b, i, none⟩))) (hy : ev l y = some (.agg vs.toArray)) (hk : hp[k]? = some (.blk b t cs)) (hv : ∀ u ∈ vs, u.oneCell' = true) (hi : i + vs.length ≤ cs.length)
    (K : ∀ w', ST w0 M w' (hp.set k (.blk b t (cs.take i ++ vs ++ cs.drop (i + vs.length)))) → WL P n ops Q rest l w') : WL P n ops Q (⟨none, .store T x y, ty, pos, af, none⟩ :: rest) l w := by
  have h := run_storeVar (P := P) (T := T) (i := i) (v := .agg vs.toArray) hS hk hT rfl hv hi
  refine WL.ws (fun ρ hρ => ?_) (K _ (hS.setRow hk (by simp; omega)))
  simp [execOp, hρ _ _ hx, hρ _ _ hy, Instr.storeAt, Instr.sureAddr, h]
/-- A store of a whole block. -/
theorem WL.storeAll {k b : Nat} {t : TypeId} {cs vs : List Value} (hS : ST w0 M w hp) (hT : sizeT P T = some vs.length) (hx : ev l x = some (.pointer (some ⟨b, 0, none⟩))) (hy : ev l y = some (.agg vs.toArray)) (hk : hp[k]? = some (.blk b t cs)) (hv : ∀ u ∈ vs, u.oneCell' = true) (hi : cs.length = vs.length)
    (K : ∀ w', ST w0 M w' (hp.set k (.blk b t vs)) → WL P n ops Q rest l w') : WL P n ops Q (⟨none, .store T x y, ty, pos, af, none⟩ :: rest) l w :=
  WL.storeA hS hT hx hy hk hv (by omega) (by simpa [← hi] using K)

-- new blocks
theorem WL.alloc {zs : List Value} (hS : ST w0 M w hp) (hT : zeroT P T = some zs) (hd : Nat.blt d n.tmps = true)
    (K : ∀ b w', w0.heap.size ≤ b → ST w0 M w' (.blk b T zs :: hp) → WL P n ops Q rest ((d, .pointer (some ⟨b, 0, none⟩)) :: l) w') : WL P n ops Q (⟨some d, .alloc T, ty, pos, af, none⟩ :: rest) l w := by
  unfold zeroT at hT
  obtain ⟨i, hi, hz⟩ := Option.bind_eq_some_iff.1 hT
  obtain ⟨z, hz', rfl⟩ := Option.map_eq_some_iff.1 hz
  refine WL.wv (w' := w.alloc (.cells z.cells.toList.toArray T)) (fun ρ hρ => ?_) hd (K _ _ hS.fr.size (Bk.sn hS T _))
  simp [execOp, Instr.alloc, zeroValue, typeInfo, hi, hz', newVar, newRow]
theorem WL.box {vs : List Value} (hS : ST w0 M w hp) (hx : ev l x = some v) (hv : v.cells = vs.toArray) (hd : Nat.blt d n.tmps = true)
    (K : ∀ b w', w0.heap.size ≤ b → ST w0 M w' (.blk b T vs :: hp) → WL P n ops Q rest ((d, .pointer (some ⟨b, 0, none⟩)) :: l) w') : WL P n ops Q (⟨some d, .box T x, ty, pos, af, none⟩ :: rest) l w := by
  refine WL.wv (w' := w.alloc (.cells vs.toArray T)) (fun ρ hρ => ?_) hd (K _ _ hS.fr.size (Bk.sn hS T _))
  simp [execOp, Instr.box, hρ _ _ hx, hv, newVar, newRow]
end
end Go.Eng
namespace Go.Eng
open Go Go.RowKit
section
variable {P : Program} {n : Md} {ops : Array Oper} {Q : QT} {rest : List Oper} {l : Env} {w w0 : World} {M : Nat → Prop} {hp : List Ent} {d : Nat} {ty : TypeId} {pos : String} {af : Array Edge} {v : Value} {T U : TypeId} {x y z : Operand}

-- addresses, parts
theorem pv_fieldAddr {S f b o off : Nat} (hT : fldT P S f = some off) (hx : ev l x = some (.pointer (some ⟨b, o, none⟩))) : PV P l ⟨some d, .fieldAddr S x f, ty, pos, af, none⟩ (.pointer (some ⟨b, o + off, none⟩)) := ⟨rfl, fun ρ hρ w => by
  unfold fldT at hT
  cases hu : P.underlying S with
  | none => simp [hu] at hT
  | some u =>
    rw [hu] at hT
    cases u <;> try (simp at hT; done)
    rename_i fs
    obtain ⟨fl, hf, hT⟩ := Option.bind_eq_some_iff.1 hT
    obtain ⟨i, hi, hT⟩ := Option.bind_eq_some_iff.1 hT
    obtain ⟨hs, ho⟩ : i.size ≠ 0 ∧ fl.offset = off := by
      by_cases h0 : i.size = 0
      · simp [h0] at hT
      · simp only [h0, if_false] at hT; injection hT with hT; exact ⟨h0, hT⟩
    simp [execOp, hρ _ _ hx, Instr.fieldAt, run_underlying hu, hf, Instr.sureAddr, fieldPlace, sizeOf, typeInfo, hi, hs, add0, ho]⟩
theorem pv_fieldAddr0 {S f b o : Nat} (hT : fldT P S f = some 0) (hx : ev l x = some (.pointer (some ⟨b, o, none⟩))) : PV P l ⟨some d, .fieldAddr S x f, ty, pos, af, none⟩ (.pointer (some ⟨b, o, none⟩)) := pv_fieldAddr hT hx
/-- The address of an element: of an array by its address. -/
theorem pv_indexAddrA {k : IntKind} {b o j len sz : Nat} {i : Int} (hT : arrT P T = some (len, sz)) (hx : ev l x = some (.pointer (some ⟨b, o, none⟩))) (hy : ev l y = some (.int k i)) (hi : i = (j : Int)) (hj : j < len) :
    PV P l ⟨some d, .indexAddr T x y, ty, pos, af, none⟩ (.pointer (some ⟨b, o + j * sz, none⟩)) := ⟨rfl, fun ρ hρ w => by
  subst hi
  unfold arrT at hT
  cases hu : P.underlying T with
  | none => simp [hu] at hT
  | some u =>
    cases u <;> simp [hu] at hT
    obtain ⟨q, hq, rfl, rfl⟩ := hT
    have h0 : (0 : Int) ≤ j ∧ (j : Int) < (_ : Nat) := ⟨by omega, by exact_mod_cast hj⟩
    simp [execOp, hρ _ _ hx, hρ _ _ hy, Instr.indexAt, asIntOf, run_underlying hu, Instr.sureAddr, hj, sizeOf, typeInfo, hq, add0]⟩
theorem pv_indexAddrS {k : IntKind} {b o j len cap e sz by_ : Nat} {i : Int} (hT : slT P T = some (e, sz, by_)) (hx : ev l x = some (.slice (some ⟨b, o, none⟩) len cap)) (hy : ev l y = some (.int k i)) (hi : i = (j : Int)) (hj : j < len) :
    PV P l ⟨some d, .indexAddr T x y, ty, pos, af, none⟩ (.pointer (some ⟨b, o + j * sz, none⟩)) := ⟨rfl, fun ρ hρ w => by
  subst hi
  unfold slT at hT
  cases hu : P.underlying T with
  | none => simp [hu] at hT
  | some u =>
    cases u <;> simp [hu] at hT
    obtain ⟨q, hq, rfl, rfl, rfl⟩ := hT
    simp [execOp, hρ _ _ hx, hρ _ _ hy, Instr.indexAt, asIntOf, run_underlying hu, hj, sizeOf, typeInfo, hq, add0]⟩
/-- An element of an array's value; a byte of a string. -/
theorem pv_index {k : IntKind} {len j : Nat} {cs : List Value} {i : Int} (hT : arrT P T = some (len, 1)) (hE : ∀ e, P.underlying T = some (.array len e) → oneT P e = true) (hx : ev l x = some (.agg cs.toArray)) (hy : ev l y = some (.int k i)) (hi : i = (j : Int)) (hj : j < len) (hv : cs[j]? = some v) :
    PV P l ⟨some d, .index T x y, ty, pos, af, none⟩ v := ⟨rfl, fun ρ hρ w => by
  subst hi
  unfold arrT at hT
  cases hu : P.underlying T with
  | none => simp [hu] at hT
  | some u =>
    cases u <;> simp [hu] at hT
    rename_i e
    obtain ⟨q, hq, rfl, hs⟩ := hT
    have hE' := hE e hu
    unfold oneT at hE'
    have hag : ∀ w, (isAgg e).run P w = .ok false w := by
      intro w
      cases hue : P.underlying e with
      | none => simp [hue] at hE'
      | some u => cases u <;> simp_all [isAgg, run_underlying hue]
    simp [execOp, hρ _ _ hx, hρ _ _ hy, Instr.index, asIntOf, run_underlying hu, hj, sizeOf, typeInfo, hq, hs, part, hag, hv]⟩
theorem pv_indexStr {k : IntKind} {s : ByteArray} {j : Nat} {i : Int} (hT : P.underlying T = some .string) (hx : ev l x = some (.string s)) (hy : ev l y = some (.int k i)) (hi : i = (j : Int)) (hj : j < s.size) :
    PV P l ⟨some d, .index T x y, ty, pos, af, none⟩ (.int .u8 (s[j].toNat : Int)) := ⟨rfl, fun ρ hρ w => by
  subst hi
  simp [execOp, hρ _ _ hx, hρ _ _ hy, Instr.index, asIntOf, run_underlying hT, hj]⟩
/-- A field of a struct's value. -/
theorem pv_field1 {f off : Nat} {cs : List Value} (hT : fvT P T f = some (off, 1, false)) (hx : ev l x = some (.agg cs.toArray)) (hv : cs[off]? = some v) : PV P l ⟨some d, .field T x f, ty, pos, af, none⟩ v := ⟨rfl, fun ρ hρ w => by
  unfold fvT at hT
  cases hu : P.underlying T with
  | none => simp [hu] at hT
  | some u =>
    rw [hu] at hT
    cases u <;> try (simp at hT; done)
    rename_i fs
    obtain ⟨fl, hf, hT⟩ := Option.bind_eq_some_iff.1 hT
    obtain ⟨i, hi, hT⟩ := Option.bind_eq_some_iff.1 hT
    cases huf : P.underlying fl.type with
    | none => simp [huf] at hT
    | some uf =>
      have hag : ∀ w, (isAgg fl.type).run P w = .ok false w := by
        intro w
        cases uf <;> simp_all [isAgg, run_underlying huf]
      have ho : fl.offset = off := by cases uf <;> simp_all
      simp [execOp, hρ _ _ hx, Instr.field, asAgg, run_underlying hu, hf, part, hag, ho, hv]⟩
theorem pv_fieldA {f off m : Nat} {cs : List Value} (hT : fvT P T f = some (off, m, true)) (hx : ev l x = some (.agg cs.toArray)) : PV P l ⟨some d, .field T x f, ty, pos, af, none⟩ (.agg ((cs.drop off).take m).toArray) := ⟨rfl, fun ρ hρ w => by
  unfold fvT at hT
  cases hu : P.underlying T with
  | none => simp [hu] at hT
  | some u =>
    rw [hu] at hT
    cases u <;> try (simp at hT; done)
    rename_i fs
    obtain ⟨fl, hf, hT⟩ := Option.bind_eq_some_iff.1 hT
    obtain ⟨i, hi, hT⟩ := Option.bind_eq_some_iff.1 hT
    cases huf : P.underlying fl.type with
    | none => simp [huf] at hT
    | some uf =>
      have hag : ∀ w, (isAgg fl.type).run P w = .ok true w := by
        intro w
        cases uf <;> simp_all [isAgg, run_underlying huf]
      have ho : fl.offset = off ∧ i.size = m := by cases uf <;> simp_all
      obtain ⟨ho, hm⟩ := ho
      have he : (cs.toArray.extract off (off + m)) = ((cs.drop off).take m).toArray := by
        apply Array.ext'; simp
      simp [execOp, hρ _ _ hx, Instr.field, asAgg, run_underlying hu, hf, part, hag, ho, sizeOf, typeInfo, hi, hm]⟩

-- lengths
theorem pv_len {A : Option Addr} {m c : Nat} (hT : (slT P T).isSome = true) (hx : ev l x = some (.slice A m c)) :
    PV P l ⟨some d, .call { callee := .builtin .len, args := #[x], argTypes := #[T] }, ty, pos, af, none⟩ (.int .i64 (m : Int)) := ⟨rfl, fun ρ hρ w => by
  unfold slT at hT
  cases hu : P.underlying T with
  | none => simp [hu] at hT
  | some u =>
    cases u <;> simp [hu] at hT
    simp [execOp, hρ _ _ hx, resolve, invoke, builtin, Builtin.len_, run_underlying hu, goInt]⟩
theorem pv_lenStr {s : ByteArray} (hT : P.underlying T = some .string) (hx : ev l x = some (.string s)) :
    PV P l ⟨some d, .call { callee := .builtin .len, args := #[x], argTypes := #[T] }, ty, pos, af, none⟩ (.int .i64 (s.size : Int)) := ⟨rfl, fun ρ hρ w => by
  simp [execOp, hρ _ _ hx, resolve, invoke, builtin, Builtin.len_, run_underlying hT, goInt]⟩
theorem pv_lenPA {len sz : Nat} {E : TypeId} (hT : P.underlying T = some (.pointer E)) (hE : arrT P E = some (len, sz)) (hx : ev l x = some v) :
    PV P l ⟨some d, .call { callee := .builtin .len, args := #[x], argTypes := #[T] }, ty, pos, af, none⟩ (.int .i64 (len : Int)) := ⟨rfl, fun ρ hρ w => by
  unfold arrT at hE
  cases hu : P.underlying E with
  | none => simp [hu] at hE
  | some u =>
    cases u <;> simp [hu] at hE
    obtain ⟨q, hq, rfl, _⟩ := hE
    simp [execOp, hρ _ _ hx, resolve, invoke, builtin, Builtin.len_, run_underlying hT, run_underlying hu, goInt]⟩
theorem pv_lenA {len sz : Nat} (hE : arrT P T = some (len, sz)) (hx : ev l x = some v) :
    PV P l ⟨some d, .call { callee := .builtin .len, args := #[x], argTypes := #[T] }, ty, pos, af, none⟩ (.int .i64 (len : Int)) := ⟨rfl, fun ρ hρ w => by
  unfold arrT at hE
  cases hu : P.underlying T with
  | none => simp [hu] at hE
  | some u =>
    cases u <;> simp [hu] at hE
    obtain ⟨q, hq, rfl, _⟩ := hE
    simp [execOp, hρ _ _ hx, resolve, invoke, builtin, Builtin.len_, run_underlying hu, goInt]⟩
theorem pv_max {k : IntKind} {a b : Int} {ts : Array TypeId} (hx : ev l x = some (.int k a)) (hy : ev l y = some (.int k b)) :
    PV P l ⟨some d, .call { callee := .builtin .max, args := #[x, y], argTypes := ts }, ty, pos, af, none⟩ (.int k (if a < b then b else a)) := ⟨rfl, fun ρ hρ w => by
  simp [execOp, hρ _ _ hx, hρ _ _ hy, resolve, invoke, builtin, Builtin.max_, Builtin.max2]⟩
theorem pv_min {k : IntKind} {a b : Int} {ts : Array TypeId} (hx : ev l x = some (.int k a)) (hy : ev l y = some (.int k b)) :
    PV P l ⟨some d, .call { callee := .builtin .min, args := #[x, y], argTypes := ts }, ty, pos, af, none⟩ (.int k (if b < a then b else a)) := ⟨rfl, fun ρ hρ w => by
  simp [execOp, hρ _ _ hx, hρ _ _ hy, resolve, invoke, builtin, Builtin.min_, Builtin.min2]⟩

-- cuts of slices, arrays, strings
def optv (l : Env) : Option Operand → Option (Option Value)
  | none => some none
  | some x => (ev l x).map some
/-- The bounds of a cut, as numbers. -/
def bnd (dflt : Nat) : Option Value → Option Int
  | none => some dflt
  | some (.int _ i) => some i
  | _ => none
theorem pv_sliceS {lo hi mx : Option Operand} {vl vh vm : Option Value} {A : Option Addr} {len cap e sz by_ a b c : Nat} (hT : slT P T = some (e, sz, by_)) (hx : ev l x = some (.slice A len cap))
    (hl : optv l lo = some vl) (hh : optv l hi = some vh) (hm : optv l mx = some vm) (nl : bnd 0 vl = some (a : Int)) (nh : bnd len vh = some (b : Int)) (nm : bnd cap vm = some (c : Int)) (hmh : mx.isSome = true → hi.isSome = true)
    (hab : a ≤ b) (hbc : b ≤ c) (hcc : c ≤ cap) :
    PV P l ⟨some d, .slice T x lo hi mx, ty, pos, af, none⟩ (.slice (if c = a then A else A.map (·.add (a * sz))) (b - a) (c - a)) := ⟨rfl, fun ρ hρ w => by
  unfold slT at hT
  cases hu : P.underlying T with
  | none => simp [hu] at hT
  | some u =>
    cases u <;> simp [hu] at hT
    obtain ⟨q, hq, rfl, rfl, rfl⟩ := hT
    have el : lo.map ρ = vl := by
      cases lo with
      | none => simpa [optv] using hl
      | some o => simp only [optv, Option.map_eq_some_iff] at hl; obtain ⟨u, h1, rfl⟩ := hl; simp [hρ _ _ h1]
    have eh : hi.map ρ = vh := by
      cases hi with
      | none => simpa [optv] using hh
      | some o => simp only [optv, Option.map_eq_some_iff] at hh; obtain ⟨u, h1, rfl⟩ := hh; simp [hρ _ _ h1]
    have em : mx.map ρ = vm := by
      cases mx with
      | none => simpa [optv] using hm
      | some o => simp only [optv, Option.map_eq_some_iff] at hm; obtain ⟨u, h1, rfl⟩ := hm; simp [hρ _ _ h1]
    have hmh' : vm.isSome = true → vh.isSome = true := by rw [← em, ← eh]; simpa using hmh
    have sb : (Instr.sliceBounds true len cap vl vh vm).run P w = .ok (a, b, c) w := by
      have key : ∀ (v : Value) (i : Int) (dflt bd : Nat) (cd : BoundsCode) (r : Nat), bnd dflt (some v) = some i → i = (r : Int) → r ≤ bd → (Instr.sliceBound v bd cd).run P w = .ok r w := by
        intro v i dflt bd cd r h1 h2 h3
        cases v <;> simp [bnd] at h1
        subst h1; subst h2
        simp [Instr.sliceBound, asIntOf, h3]
      cases vm with
      | none =>
        have : c = cap := by simp [bnd] at nm; omega
        subst this
        cases vh with
        | none =>
          have : b = len := by simp [bnd] at nh; omega
          subst this
          cases vl with
          | none => have : a = 0 := by simp [bnd] at nl; omega
                    subst this; simp [Instr.sliceBounds]
          | some v => simp [Instr.sliceBounds, key v _ 0 b .sliceB a nl rfl hab]
        | some vh =>
          cases vl with
          | none => have : a = 0 := by simp [bnd] at nl; omega
                    subst this; simp [Instr.sliceBounds, key vh _ len c .sliceAcap b nh rfl hbc]
          | some v => simp [Instr.sliceBounds, key vh _ len c .sliceAcap b nh rfl hbc, key v _ 0 b .sliceB a nl rfl hab]
      | some vm =>
        cases vh with
        | none => simp at hmh'
        | some vh =>
          cases vl with
          | none => have : a = 0 := by simp [bnd] at nl; omega
                    subst this; simp [Instr.sliceBounds, key vm _ cap cap .slice3Acap c nm rfl hcc, key vh _ len c .slice3B b nh rfl hbc]
          | some v => simp [Instr.sliceBounds, key vm _ cap cap .slice3Acap c nm rfl hcc, key vh _ len c .slice3B b nh rfl hbc, key v _ 0 b .slice3C a nl rfl hab]
    simp [execOp, hρ _ _ hx, Instr.sliceAt, Instr.slice, run_underlying hu, el, eh, em, sb, sizeOf, typeInfo, hq]⟩
/-- An array, cut by its address. -/
theorem pv_sliceA {lo hi : Option Operand} {vl vh : Option Value} {g o len sz a b : Nat} (hT : arrT P T = some (len, sz)) (hx : ev l x = some (.pointer (some ⟨g, o, none⟩)))
    (hl : optv l lo = some vl) (hh : optv l hi = some vh) (nl : bnd 0 vl = some (a : Int)) (nh : bnd len vh = some (b : Int)) (hab : a ≤ b) (hbc : b ≤ len) :
    PV P l ⟨some d, .slice T x lo hi none, ty, pos, af, none⟩ (.slice (some (if len = a then ⟨g, o, none⟩ else ⟨g, o + a * sz, none⟩)) (b - a) (len - a)) := ⟨rfl, fun ρ hρ w => by
  unfold arrT at hT
  cases hu : P.underlying T with
  | none => simp [hu] at hT
  | some u =>
    cases u <;> simp [hu] at hT
    obtain ⟨q, hq, rfl, rfl⟩ := hT
    rename_i len _
    have el : lo.map ρ = vl := by
      cases lo with
      | none => simpa [optv] using hl
      | some o => simp only [optv, Option.map_eq_some_iff] at hl; obtain ⟨u, h1, rfl⟩ := hl; simp [hρ _ _ h1]
    have eh : hi.map ρ = vh := by
      cases hi with
      | none => simpa [optv] using hh
      | some o => simp only [optv, Option.map_eq_some_iff] at hh; obtain ⟨u, h1, rfl⟩ := hh; simp [hρ _ _ h1]
    have sb : (Instr.sliceBounds false len len vl vh none).run P w = .ok (a, b, len) w := by
      have key : ∀ (v : Value) (i : Int) (dflt bd : Nat) (cd : BoundsCode) (r : Nat), bnd dflt (some v) = some i → i = (r : Int) → r ≤ bd → (Instr.sliceBound v bd cd).run P w = .ok r w := by
        intro v i dflt bd cd r h1 h2 h3
        cases v <;> simp [bnd] at h1
        subst h1; subst h2
        simp [Instr.sliceBound, asIntOf, h3]
      cases vh with
      | none =>
        have : b = len := by simp [bnd] at nh; omega
        subst this
        cases vl with
        | none => have : a = 0 := by simp [bnd] at nl; omega
                  subst this; simp [Instr.sliceBounds]
        | some v => simp [Instr.sliceBounds, key v _ 0 b .sliceB a nl rfl hab]
      | some vh =>
        cases vl with
        | none => have : a = 0 := by simp [bnd] at nl; omega
                  subst this; simp [Instr.sliceBounds, key vh _ len len .sliceAlen b nh rfl hbc]
        | some v => simp [Instr.sliceBounds, key vh _ len len .sliceAlen b nh rfl hbc, key v _ 0 b .sliceB a nl rfl hab]
    simp [execOp, hρ _ _ hx, Instr.sliceAt, Instr.sureAddr, run_underlying hu, el, eh, sb, sizeOf, typeInfo, hq, add0]⟩
end
end Go.Eng
namespace Go.Eng
open Go Go.RowKit

theorem run_first {P : Program} {w : World} {x : Value} {sz : Nat} {ys : List Value} (h : Rs w x sz ys) : ∃ A m c, x = .slice A m c ∧ ys.length = m * sz ∧ (Builtin.firstCells sz m (.slice A m c)).run P w = .ok ys.toArray w := by
  obtain ⟨A, m, c, rfl, _, _, h3, h4⟩ := h
  refine ⟨A, m, c, rfl, h3, ?_⟩
  rcases h4 with rfl | ⟨b, o, rfl, h4⟩
  · have hm : m * sz = 0 := by simpa using h3.symm
    cases A with
    | none => exact run_firstCells_none w sz m m c
    | some a => simp [Builtin.firstCells, hm, loadCells, loadCellsFrom]
  · exact run_firstCells_some w sz m _ m c ys h3 (fun j u hu => by rw [add0]; exact h4 j u hu)

theorem size_zeros (z : Array Value) (n : Nat) : (Builtin.zeroCells z n).toList.length = n * z.size := by simp [Builtin.zeroCells]

/-- append onto a row of one's own, of whatever is read. -/
theorem run_append {P : Program} {w : World} {T ty e : TypeId} {sz by_ N : Nat} {v x : Value} {xs ys : List Value} (hT : slT P T = some (e, sz, by_)) (hz : (zeroT P e).map List.length = some sz) (hsz : 0 < sz)
    (hv : Rw w v e sz xs) (hx : Rs w x sz ys) (h1 : ∀ u ∈ ys, u.oneCell' = true) (hN : xs.length + ys.length ≤ N * sz) (hb : N * by_ ≤ 140737488355328) (hN2 : N ≤ maxLen) :
    ∃ v' w', (Builtin.append_ #[T, T] ty #[v, x]).run P w = .ok v' w' ∧ Fr (fun b => v.ownBlock = some b) w w' ∧ Rw w' v' e sz (xs ++ ys) ∧ (∀ b, v'.ownBlock = some b → v.ownBlock = some b ∨ w.heap.size ≤ b) ∧ Rs w' v sz xs := by
  have hvr := hv.rs
  unfold slT at hT
  cases hu : P.underlying T with
  | none => simp [hu] at hT
  | some u =>
  cases u <;> simp [hu] at hT
  obtain ⟨i, hi, rfl, rfl, rfl⟩ := hT
  rename_i e
  have hz' : ∃ z, i.zero = some z ∧ z.cells.size = i.size := by
    unfold zeroT at hz
    rw [hi] at hz
    cases hzz : i.zero with
    | none => simp [hzz] at hz
    | some z => exact ⟨z, rfl, by simpa [hzz] using hz⟩
  obtain ⟨z, hz1, hz2⟩ := hz'
  obtain ⟨A, m, c, rfl, hl, _⟩ := run_first (P := P) hx
  have hf : ∀ w', Fr No w w' → (Builtin.firstCells i.size m (.slice A m c)).run P w' = .ok ys.toArray w' := by
    intro w' hw
    obtain ⟨A', m', c', he, hl', hr⟩ := run_first (P := P) (hx.no hw)
    injection he with e1 e2 e3; subst e1; subst e2; subst e3
    exact hr
  have zlen : ∀ n, (Builtin.zeroCells z.cells n).toList.length = n * i.size := fun n => by rw [size_zeros, hz2]
  -- a new block
  have grown : ∀ (n old : Nat), xs.length = n * i.size → old < n + m →
      ∀ cap, cap = grownCap w (n + m) old e →
      Fr No w (w.drew.alloc (.cells (xs.toArray ++ ys.toArray ++ Builtin.zeroCells z.cells (cap - (n + m))) e)) ∧
      Rw (w.drew.alloc (.cells (xs.toArray ++ ys.toArray ++ Builtin.zeroCells z.cells (cap - (n + m))) e)) (.slice (some ⟨w.heap.size, 0, none⟩) (n + m) cap) e i.size (xs ++ ys) := by
    intro n old hn ho cap hcap
    have hge : n + m ≤ cap := by rw [hcap]; exact grownCap_ge w (n + m) old e
    have hnm : n + m ≤ N := by
      have : (n + m) * i.size ≤ N * i.size := by rw [Nat.add_mul, ← hn, ← hl]; exact hN
      exact Nat.le_of_mul_le_mul_right this hsz
    have hcm : cap ≤ maxLen := by rw [hcap]; exact grownCap_le_maxLen w (n + m) old e (Nat.le_trans hnm hN2)
    refine ⟨(Fr.drew w).trans (Fr.alloc w.drew _) (fun _ _ h => h), .inr ⟨w.heap.size, n + m, cap, (Builtin.zeroCells z.cells (cap - (n + m))).toList, rfl, ?_, ?_, hge, hcm, ?_⟩⟩
    · have := Bk.new w.drew e (xs ++ ys ++ (Builtin.zeroCells z.cells (cap - (n + m))).toList)
      have e1 : (xs ++ ys ++ (Builtin.zeroCells z.cells (cap - (n + m))).toList).toArray = xs.toArray ++ ys.toArray ++ Builtin.zeroCells z.cells (cap - (n + m)) := by
        apply Array.ext'; simp
      rw [e1] at this
      exact this
    · simp [hn, hl, Nat.add_mul]
    · rw [List.length_append, List.length_append, hn, hl, zlen, ← Nat.add_mul, ← Nat.add_mul]; congr 1; omega
  rcases hv with ⟨rfl, rfl⟩ | ⟨g, n, cap, sp, rfl, hk, hn, hnc, hcm, hlen⟩
  · by_cases h0 : m = 0
    · subst h0
      have hy : ys = [] := List.eq_nil_of_length_eq_zero (by simpa using hl)
      subst hy
      refine ⟨.slice none 0 0, w, ?_, .refl _, .inl ⟨rfl, rfl⟩, by simp [Value.ownBlock], hvr⟩
      have := hf w (.refl _)
      simp [Builtin.append_, run_underlying hu, sizeOf, typeInfo, hi, Builtin.lenOf, this]
    · have hm : ¬ m ≤ 0 := by omega
      have hmN : m ≤ N := by
        have : m * i.size ≤ N * i.size := by rw [← hl]; simpa using hN
        exact Nat.le_of_mul_le_mul_right this hsz
      have h63 : ¬ (9223372036854775807 < (m : Int)) := by have := hN2; simp only [maxLen] at this; omega
      have h48 : ¬ (281474976710656 < Builtin.nextslicecap m 0 * i.bytes) := by
        rw [nextslicecap_zero (by omega)]
        have : m * i.bytes ≤ N * i.bytes := Nat.mul_le_mul_right _ hmN
        omega
      have g1 := grown 0 0 (by simp) (by omega) _ rfl
      have hfd := hf w.drew (Fr.drew w)
      refine ⟨.slice (some ⟨w.heap.size, 0, none⟩) (0 + m) (grownCap w (0 + m) 0 e), _, ?_, g1.1.no, g1.2, fun b hb => .inr (by simp [Value.ownBlock] at hb; omega), hvr.no g1.1⟩
      simp [Builtin.append_, run_underlying hu, sizeOf, typeInfo, zeroValue, hi, hz1, Builtin.lenOf, h0, h63, h48, Question.forced, run_firstCells_none, hfd, newRow, grownCap]
  · have hnm : n + m ≤ N := by
      have : (n + m) * i.size ≤ N * i.size := by rw [Nat.add_mul, ← hn, ← hl]; exact hN
      exact Nat.le_of_mul_le_mul_right this hsz
    by_cases hroom : n + m ≤ cap
    · have hfw := hf w (.refl _)
      have hfit : n * i.size + ys.length ≤ (xs ++ sp).length := by rw [hlen, hl, ← Nat.add_mul]; exact Nat.mul_le_mul_right _ hroom
      have hst := run_storeCells_bk (P := P) g (n * i.size) e ys 0 (xs ++ sp) w hk (by simpa using hfit) h1
      simp only [Nat.add_zero] at hst
      have e1 : (xs ++ sp).take (n * i.size) ++ ys ++ (xs ++ sp).drop (n * i.size + ys.length) = xs ++ ys ++ sp.drop ys.length := by
          rw [← hn, List.take_left, List.drop_append]
          simp
      have hB : Bk (w.setRow g ((xs ++ sp).take (n * i.size) ++ ys ++ (xs ++ sp).drop (n * i.size + ys.length)).toArray) g e (xs ++ ys ++ sp.drop ys.length) := by
        rw [e1]
        refine Bk.set hk ?_
        simp at hlen hfit ⊢; omega
      refine ⟨.slice (some ⟨g, 0, none⟩) (n + m) cap, w.setRow g ((xs ++ sp).take (n * i.size) ++ ys ++ (xs ++ sp).drop (n * i.size + ys.length)).toArray, ?_, Fr.setRow w g _ rfl, .inr ⟨g, n + m, cap, sp.drop ys.length, rfl, ?_, ?_, hroom, hcm, ?_⟩, fun b hb => .inl hb, ⟨_, _, _, rfl, hnc, hcm, hn, .inr ⟨g, 0, rfl, fun j u hu => by rw [Nat.zero_add, hB.cell, List.append_assoc, List.getElem?_append_left (getElem?_lt hu)]; exact hu⟩⟩⟩
      · simp [Builtin.append_, run_underlying hu, sizeOf, typeInfo, hi, Builtin.lenOf, hroom, hfw, add0, hst]
      · exact hB
      · simp [hn, hl, Nat.add_mul]
      · simp at hlen hfit ⊢; omega
    · have hroom' : ¬ n + m ≤ cap := hroom
      have h63 : ¬ (9223372036854775807 < ((n : Int) + (m : Int))) := by have := hN2; simp only [maxLen] at this; omega
      have h48 : ¬ (281474976710656 < Builtin.nextslicecap (n + m) cap * i.bytes) := by
        have := growslice_fits (bytes := i.bytes) (old := cap) (need := n + m) (by omega) (by
          have : (n + m) * i.bytes ≤ N * i.bytes := Nat.mul_le_mul_right _ hnm
          omega)
        omega
      have g1 := grown n cap hn (by omega) _ rfl
      have hfd := hf w.drew (Fr.drew w)
      have hold : (Builtin.firstCells i.size n (.slice (some ⟨g, 0, none⟩) n cap)).run P w.drew = .ok xs.toArray w.drew :=
        run_firstCells_some w.drew i.size n _ n cap xs hn (fun j u hu => by
          rw [add0, World.cell?_drew, hk.cell, Nat.zero_add, List.getElem?_append_left (getElem?_lt hu)]; exact hu)
      refine ⟨.slice (some ⟨w.heap.size, 0, none⟩) (n + m) (grownCap w (n + m) cap e), _, ?_, g1.1.no, g1.2, fun b hb => .inr (by simp [Value.ownBlock] at hb; omega), hvr.no g1.1⟩
      simp [Builtin.append_, run_underlying hu, sizeOf, typeInfo, zeroValue, hi, hz1, Builtin.lenOf, hroom', h63, h48, Question.forced, hfd, hold, newRow, grownCap]
      congr 2
      apply Array.ext'
      simp [List.append_assoc]
end Go.Eng
namespace Go.Eng
open Go Go.RowKit
section
variable {P : Program} {n : Md} {ops : Array Oper} {Q : QT} {rest : List Oper} {l : Env} {w w0 : World} {M : Nat → Prop} {hp : List Ent} {d : Nat} {ty : TypeId} {pos : String} {af : Array Edge} {v : Value} {T U : TypeId} {x y z : Operand}

theorem WL.append {k e sz by_ N : Nat} {u : Value} {xs ys : List Value} (hS : ST w0 M w hp) (hT : slT P T = some (e, sz, by_)) (hz : (zeroT P e).map List.length = some sz) (hsz : 0 < sz)
    (hx : ev l x = some v) (hk : hp[k]? = some (.row v e sz xs)) (hy : ev l y = some u) (hr : Rs w u sz ys) (h1 : ∀ u ∈ ys, u.oneCell' = true) (hN : xs.length + ys.length ≤ N * sz) (hb : N * by_ ≤ 140737488355328) (hN2 : N ≤ maxLen) (hd : Nat.blt d n.tmps = true)
    (K : ∀ v' w', Fr (fun b => v.ownBlock = some b) w w' → ST w0 M w' (hp.set k (.row v' e sz (xs ++ ys))) → WL P n ops Q rest ((d, v') :: l) w') :
    WL P n ops Q (⟨some d, .call { callee := .builtin .append, args := #[x, y], argTypes := #[T, T] }, ty, pos, af, none⟩ :: rest) l w := by
  obtain ⟨v', w', hrun, hf, hrw, hbl, hkp⟩ := run_append (P := P) (ty := ty) hT hz hsz (hS.at_ hk) hr h1 hN hb hN2
  refine WL.wv (fun ρ hρ => ?_) hd (K v' w' hf (hS.upd hk hf hrw hbl))
  simp [execOp, resolve, invoke, builtin, hρ _ _ hx, hρ _ _ hy, hrun]

theorem WL.appendK {k e sz by_ N : Nat} {u : Value} {xs ys : List Value} (hS : ST w0 M w hp) (hT : slT P T = some (e, sz, by_)) (hz : (zeroT P e).map List.length = some sz) (hsz : 0 < sz)
    (hx : ev l x = some v) (hk : hp[k]? = some (.row v e sz xs)) (hy : ev l y = some u) (hr : Rs w u sz ys) (h1 : ∀ u ∈ ys, u.oneCell' = true) (hN : xs.length + ys.length ≤ N * sz) (hb : N * by_ ≤ 140737488355328) (hN2 : N ≤ maxLen) (hd : Nat.blt d n.tmps = true)
    (K : ∀ v' w', Fr (fun b => v.ownBlock = some b) w w' → ST w0 M w' (hp.set k (.row v' e sz (xs ++ ys))) → Rs w' v sz xs → WL P n ops Q rest ((d, v') :: l) w') :
    WL P n ops Q (⟨some d, .call { callee := .builtin .append, args := #[x, y], argTypes := #[T, T] }, ty, pos, af, none⟩ :: rest) l w := by
  obtain ⟨v', w', hrun, hf, hrw, hbl, hkp⟩ := run_append (P := P) (ty := ty) hT hz hsz (hS.at_ hk) hr h1 hN hb hN2
  refine WL.wv (fun ρ hρ => ?_) hd (K v' w' hf (hS.upd hk hf hrw hbl) hkp)
  simp [execOp, resolve, invoke, builtin, hρ _ _ hx, hρ _ _ hy, hrun]

/-- The make of a slice. -/
theorem madeCells_list (zs : List Value) (m : Nat) : (madeCells zs.toArray (m * zs.length)).toList = (List.replicate m zs).flatten := by
  induction m with
  | zero => simp [madeCells]
  | succ m ih =>
    rw [List.replicate_succ', List.flatten_append, ← ih]
    unfold madeCells
    simp only [Array.toList_map, Array.toList_range, List.size_toArray, Nat.succ_mul]
    rw [List.range_add, List.map_append]
    congr 1
    apply List.ext_getElem
    · simp
    · intro i h1 h2
      simp at h1 h2
      simp [Nat.mod_eq_of_lt h1, h1]
theorem run_mk {e sz by_ a c : Nat} {ka kc : IntKind} {zs : List Value} (hT : slT P T = some (e, sz, by_)) (hz : zeroT P e = some zs) (hzl : zs.length = sz) (hac : a ≤ c) (hb : by_ * c ≤ 281474976710656) (h63 : c ≤ maxLen) :
    (Instr.makeSlice T (.int ka (a : Int)) (.int kc (c : Int))).run P w = .ok (.slice (some ⟨w.heap.size, 0, none⟩) a c) (w.alloc (.cells ((List.replicate c zs).flatten).toArray e)) := by
  unfold slT at hT
  cases hu : P.underlying T with
  | none => simp [hu] at hT
  | some u =>
  cases u <;> simp [hu] at hT
  obtain ⟨i, hi, rfl, rfl, rfl⟩ := hT
  unfold zeroT at hz
  rw [hi] at hz
  obtain ⟨z, hz1, rfl⟩ := Option.map_eq_some_iff.1 (show i.zero.map _ = some zs from hz)
  have := run_make (P := P) w T _ i z hu hi hz1 ka kc (a : Int) (c : Int) (by omega) (by omega) (by
    have h : ((i.bytes * c : Nat) : Int) ≤ 281474976710656 := by omega
    rwa [Int.natCast_mul] at h) (by simp only [maxLen] at h63; omega)
  rw [this]
  have e1 : madeCells z.cells ((c : Int).toNat * i.size) = ((List.replicate c z.cells.toList).flatten).toArray := by
    apply Array.ext'
    rw [← madeCells_list z.cells.toList c]
    simp [← hzl]
  rw [e1]; simp
theorem WL.make {e sz by_ c : Nat} {zs : List Value} (hS : ST w0 M w hp) (hT : slT P T = some (e, sz, by_)) (hz : zeroT P e = some zs) (hzl : zs.length = sz) {kx ky : IntKind} (hx : ev l x = some (.int kx (c : Int))) (hy : ev l y = some (.int ky (c : Int)))
    (hb : by_ * c ≤ 281474976710656) (h63 : c ≤ maxLen) (hd : Nat.blt d n.tmps = true)
    (K : ∀ b w', w0.heap.size ≤ b → ST w0 M w' (.row (.slice (some ⟨b, 0, none⟩) c c) e sz ((List.replicate c zs).flatten) :: hp) → WL P n ops Q rest ((d, .slice (some ⟨b, 0, none⟩) c c) :: l) w') :
    WL P n ops Q (⟨some d, .makeSlice T x y, ty, pos, af, none⟩ :: rest) l w := by
  refine WL.wv (fun ρ hρ => ?_) hd (K w.heap.size (w.alloc (.cells ((List.replicate c zs).flatten).toArray e)) hS.fr.size ?_)
  · simp [execOp, hρ _ _ hx, hρ _ _ hy, run_mk hT hz hzl (Nat.le_refl c) hb h63]
  · refine hS.add (.alloc w _) (.inr ⟨w.heap.size, c, c, [], rfl, ?_, ?_, Nat.le_refl _, h63, ?_⟩) (fun b hb => by simp [Ent.block, Value.ownBlock] at hb; omega)
    · rw [List.append_nil]; exact Bk.new w e _
    · simp [hzl]
    · simp [hzl]
/-- A made slice, as a block. -/
theorem WL.makeB {e sz by_ c : Nat} {zs : List Value} (hS : ST w0 M w hp) (hT : slT P T = some (e, sz, by_)) (hz : zeroT P e = some zs) (hzl : zs.length = sz) {kx ky : IntKind} (hx : ev l x = some (.int kx (c : Int))) (hy : ev l y = some (.int ky (c : Int)))
    (hb : by_ * c ≤ 281474976710656) (h63 : c ≤ maxLen) (hd : Nat.blt d n.tmps = true)
    (K : ∀ b w', w0.heap.size ≤ b → ST w0 M w' (.blk b e ((List.replicate c zs).flatten) :: hp) → WL P n ops Q rest ((d, .slice (some ⟨b, 0, none⟩) c c) :: l) w') :
    WL P n ops Q (⟨some d, .makeSlice T x y, ty, pos, af, none⟩ :: rest) l w := by
  refine WL.wv (fun ρ hρ => ?_) hd (K w.heap.size (w.alloc (.cells ((List.replicate c zs).flatten).toArray e)) hS.fr.size (Bk.sn hS e _))
  simp [execOp, hρ _ _ hx, hρ _ _ hy, run_mk hT hz hzl (Nat.le_refl c) hb h63]

/-- A slice's literal: its parts one behind the other. -/
def vals (ρ : Operand → Value) (parts : List (Nat × Operand)) : List (Nat × Value) := parts.map fun (i, x) => (i, ρ x)
def pvs (l : Env) : List (Nat × Operand) → Option (List (Nat × Value))
  | [] => some []
  | (i, x) :: r => match ev l x, pvs l r with
    | some v, some vs => some ((i, v) :: vs)
    | _, _ => none
theorem pvs_map {ρ : Operand → Value} (hρ : Agr l ρ) : ∀ {ps : List (Nat × Operand)} {vs : List (Nat × Value)}, pvs l ps = some vs → ps.map (fun p => (p.1, ρ p.2)) = vs
  | [], vs, hc => by simpa [pvs] using hc
  | (i, x) :: r, vs, hc => by
    simp only [pvs] at hc
    split at hc
    · rename_i v vs' h1 h2
      injection hc with hc; subst hc
      simp [hρ x _ h1, pvs_map hρ h2]
    · cases hc
theorem WL.buildS {e sz by_ m : Nat} {parts : List (Nat × Operand)} {vs : List (Nat × Value)} {zs cells : List Value} (hS : ST w0 M w hp) (hT : slT P T = some (e, sz, by_)) (hz : zeroT P e = some zs) (hvs : pvs l parts = some vs)
    (hm : Nat.ble (m * sz) 16777216 = true) (hf : Instr.fill (fun i => some (i * sz, sz)) ((Array.range (m * sz)).map (zs.toArray[· % zs.toArray.size]!)) vs = some cells.toArray) (hms : m * sz ≠ 0) (hd : Nat.blt d n.tmps = true)
    (K : ∀ b w', w0.heap.size ≤ b → ST w0 M w' (.blk b e cells :: hp) → WL P n ops Q rest ((d, .slice (some ⟨b, 0, none⟩) m m) :: l) w') :
    WL P n ops Q (⟨some d, .buildSlice T m parts.toArray, ty, pos, af, none⟩ :: rest) l w := by
  refine WL.wv (fun ρ hρ => ?_) hd (K w.heap.size (w.alloc (.cells cells.toArray e)) hS.fr.size (Bk.sn hS e _))
  unfold slT at hT
  cases hu : P.underlying T with
  | none => simp [hu] at hT
  | some u =>
  cases u <;> simp [hu] at hT
  obtain ⟨i, hi, rfl, rfl, rfl⟩ := hT
  unfold zeroT at hz
  rw [hi] at hz
  obtain ⟨z, hz1, rfl⟩ := Option.map_eq_some_iff.1 (show i.zero.map _ = some zs from hz)
  have hle := Nat.le_of_ble_eq_true hm
  have hnot : ¬ (16777216 < m * i.size) := by omega
  have hp := pvs_map hρ hvs
  simp only [Array.toArray_toList] at hf
  simp [execOp, Instr.buildSlice, run_underlying hu, sizeOf, typeInfo, hi, hnot, zeroValue, hz1, hp, hf, newRow]
  try (intro h; exact absurd h hms)

theorem foldl_set (off : Nat) : ∀ (vs : List Value) (j : Nat) (pre mid post : List Value), pre.length = off + j → mid.length = vs.length →
    (vs.zipIdx j).foldl (fun (cs : Array Value) (x : Value × Nat) => cs.setIfInBounds (off + x.2) x.1) (pre ++ mid ++ post).toArray = (pre ++ vs ++ post).toArray
  | [], j, pre, mid, post, _, h => by
    have : mid = [] := List.eq_nil_of_length_eq_zero (by simpa using h)
    subst this; simp
  | v :: vs, j, pre, mid, post, hp, h => by
    cases mid with
    | nil => simp at h
    | cons m mid =>
      rw [List.zipIdx_cons, List.foldl_cons]
      have e : (pre ++ m :: mid ++ post).toArray.setIfInBounds (off + j) v = ((pre ++ [v]) ++ mid ++ post).toArray := by
        apply Array.ext'
        rw [Array.toList_setIfInBounds, ← hp]
        simp
      simp only
      rw [e, foldl_set off vs (j + 1) (pre ++ [v]) mid post (by simp; omega) (by simpa using h)]
      simp
theorem fill_all (sz : Nat) : ∀ (vs : List Value) (k : Nat) (pre post : List Value), pre.length = k * sz → post.length = vs.length * sz → (∀ v ∈ vs, v.cells.size = sz) →
    Instr.fill (fun i => some (i * sz, sz)) (pre ++ post).toArray ((List.range' k vs.length).zip vs) = some (pre ++ vs.flatMap (·.cells.toList)).toArray
  | [], k, pre, post, _, h, _ => by
    have : post = [] := List.eq_nil_of_length_eq_zero (by simpa using h)
    subst this; simp [Instr.fill]
  | v :: vs, k, pre, post, hp, h, hv => by
    have hvs : v.cells.size = sz := hv v (by simp)
    simp only [List.length_cons, List.range'_succ, List.zip_cons_cons, Instr.fill]
    simp only [List.length_cons, Nat.succ_mul] at h
    have c1 : ¬ (v.cells.size ≠ sz ∨ k * sz + v.cells.size > (pre ++ post).toArray.size) := by
      simp [hvs, hp]; omega
    rw [if_neg (by simpa using c1)]
    have e2 : v.cells.zipIdx.foldl (fun (cs : Array Value) (x : Value × Nat) => cs.setIfInBounds (k * sz + x.2) x.1) (pre ++ post).toArray = ((pre ++ v.cells.toList) ++ post.drop sz).toArray := by
      rw [← Array.foldl_toList, Array.toList_zipIdx]
      have := foldl_set (k * sz) v.cells.toList 0 pre (post.take sz) (post.drop sz) (by simpa using hp) (by simp [hvs]; omega)
      rw [List.append_assoc, List.take_append_drop] at this
      exact this
    have ih := fill_all sz vs (k + 1) (pre ++ v.cells.toList) (post.drop sz) (by simp [hp, hvs, Nat.succ_mul]) (by simp; omega) (fun x hx => hv x (by simp [hx]))
    rw [e2, ih]
    simp
/-- A slice's literal whose parts are all written out. -/
theorem WL.buildV {e sz by_ : Nat} {parts : List (Nat × Operand)} {vs : List Value} {zs : List Value} (hS : ST w0 M w hp) (hT : slT P T = some (e, sz, by_)) (hz : zeroT P e = some zs) (_hzl : zs.length = sz) (hvs : pvs l parts = some ((List.range' 0 vs.length).zip vs))
    (hm : Nat.ble (vs.length * sz) 16777216 = true) (hms : Nat.blt 0 (vs.length * sz) = true) (hv : ∀ v ∈ vs, v.cells.size = sz) {cells : List Value} (hc : cells = vs.flatMap (·.cells.toList)) (hd : Nat.blt d n.tmps = true)
    (K : ∀ b w', w0.heap.size ≤ b → ST w0 M w' (.blk b e cells :: hp) → WL P n ops Q rest ((d, .slice (some ⟨b, 0, none⟩) vs.length vs.length) :: l) w') :
    WL P n ops Q (⟨some d, .buildSlice T vs.length parts.toArray, ty, pos, af, none⟩ :: rest) l w := by
  have hpos : 0 < vs.length * sz := Nat.le_of_ble_eq_true hms
  have e1 : (Array.range (vs.length * sz)).map (zs.toArray[· % zs.toArray.size]!) = ([] ++ (madeCells zs.toArray (vs.length * sz)).toList).toArray := by
    apply Array.ext'; simp [madeCells]
  refine WL.buildS (cells := cells) hS hT hz hvs hm ?_ (by omega) hd K
  rw [e1, fill_all sz vs 0 [] _ (by simp) (by simp [madeCells]) hv, hc]; rfl

theorem WL.build1 {e by_ : Nat} {x : Operand} {zs : List Value} (hS : ST w0 M w hp) (hT : slT P T = some (e, 1, by_)) (hz : zeroT P e = some zs) (hzl : zs.length = 1) (hx : ev l x = some v) (hv : v.oneCell' = true) (hd : Nat.blt d n.tmps = true)
    (K : ∀ b w', w0.heap.size ≤ b → ST w0 M w' (.blk b e [v] :: hp) → WL P n ops Q rest ((d, .slice (some ⟨b, 0, none⟩) 1 1) :: l) w') :
    WL P n ops Q (⟨some d, .buildSlice T 1 #[(0, x)], ty, pos, af, none⟩ :: rest) l w := by
  have hc : v.cells = #[v] := by cases v <;> simp_all [Value.cells, Value.oneCell']
  exact WL.buildV (vs := [v]) (parts := [(0, x)]) hS hT hz hzl (by simp [pvs, hx]) rfl rfl (by simp [hc]) (cells := [v]) (by simp [hc]) hd K
theorem WL.build1A {e sz by_ : Nat} {x : Operand} {zs vs : List Value} (hS : ST w0 M w hp) (hT : slT P T = some (e, sz, by_)) (hz : zeroT P e = some zs) (hzl : zs.length = sz) (hx : ev l x = some (.agg vs.toArray)) (hv : vs.length = sz) (hs : Nat.ble sz 1000 = true) (h0 : Nat.blt 0 sz = true) (hd : Nat.blt d n.tmps = true)
    (K : ∀ b w', w0.heap.size ≤ b → ST w0 M w' (.blk b e vs :: hp) → WL P n ops Q rest ((d, .slice (some ⟨b, 0, none⟩) 1 1) :: l) w') :
    WL P n ops Q (⟨some d, .buildSlice T 1 #[(0, x)], ty, pos, af, none⟩ :: rest) l w := by
  have h1 := Nat.le_of_ble_eq_true hs
  have h2 : 0 < sz := Nat.le_of_ble_eq_true h0
  exact WL.buildV (vs := [.agg vs.toArray]) (parts := [(0, x)]) hS hT hz hzl (by simp [pvs, hx]) (by simp; omega) (by simpa using h2) (by simp [Value.cells, hv]) (cells := vs) (by simp [Value.cells]) hd K
theorem WL.build2 {e by_ : Nat} {x y : Operand} {v u : Value} {zs : List Value} (hS : ST w0 M w hp) (hT : slT P T = some (e, 1, by_)) (hz : zeroT P e = some zs) (hzl : zs.length = 1) (hx : ev l x = some v) (hy : ev l y = some u) (hv : v.oneCell' = true) (hu : u.oneCell' = true) (hd : Nat.blt d n.tmps = true)
    (K : ∀ b w', w0.heap.size ≤ b → ST w0 M w' (.blk b e [v, u] :: hp) → WL P n ops Q rest ((d, .slice (some ⟨b, 0, none⟩) 2 2) :: l) w') :
    WL P n ops Q (⟨some d, .buildSlice T 2 #[(0, x), (1, y)], ty, pos, af, none⟩ :: rest) l w := by
  have hc : v.cells = #[v] := by cases v <;> simp_all [Value.cells, Value.oneCell']
  have hc2 : u.cells = #[u] := by cases u <;> simp_all [Value.cells, Value.oneCell']
  exact WL.buildV (vs := [v, u]) (parts := [(0, x), (1, y)]) hS hT hz hzl (by simp [pvs, hx, hy]; rfl) rfl rfl (by simp [hc, hc2]) (cells := [v, u]) (by simp [hc, hc2]) hd K
end
end Go.Eng
namespace Go.Eng
open Go Go.RowKit
section
variable {P : Program} {n : Md} {ops : Array Oper} {Q : QT} {rest : List Oper} {l : Env} {w w0 : World} {M : Nat → Prop} {hp : List Ent} {d : Nat} {ty : TypeId} {pos : String} {af : Array Edge} {v : Value} {T U : TypeId} {x y z : Operand}

/-- The value of a struct's or an array's literal: its parts laid into the zero. -/
def layOf (P : Program) (T : TypeId) : Option (List (Nat × Nat)) := match P.underlying T with
  | some (.struct fs) => fs.toList.mapM fun f => (P.info? f.type).map fun i => (f.offset, i.size)
  | _ => none
theorem pv_buildA {len sz : Nat} {parts : List (Nat × Operand)} {vs : List (Nat × Value)} {zs cells : List Value} (hT : arrT P T = some (len, sz)) (hz : zeroT P T = some zs) (hvs : pvs l parts = some vs)
    (hf : Instr.fill (fun i => some (i * sz, sz)) zs.toArray vs = some cells.toArray) : PV P l ⟨some d, .build T parts.toArray, ty, pos, af, none⟩ (.agg cells.toArray) := ⟨rfl, fun ρ hρ w => by
  unfold arrT at hT
  cases hu : P.underlying T with
  | none => simp [hu] at hT
  | some u =>
  cases u <;> simp [hu] at hT
  obtain ⟨q, hq, rfl, rfl⟩ := hT
  unfold zeroT at hz
  obtain ⟨i, hi, hz⟩ := Option.bind_eq_some_iff.1 hz
  obtain ⟨z, hz1, rfl⟩ := Option.map_eq_some_iff.1 hz
  have hp := pvs_map hρ hvs
  simp only [Array.toArray_toList] at hf
  simp [execOp, Instr.build, zeroValue, typeInfo, hi, hz1, run_underlying hu, sizeOf, hq, hp, hf]⟩
theorem run_places (P : Program) (w : World) : ∀ (fs : List Field) (ps : List (Nat × Nat)), (fs.mapM fun f => (P.info? f.type).map fun i => (f.offset, i.size)) = some ps →
    (fs.mapM (m := Sem) fun f => Prod.mk f.offset <$> sizeOf f.type).run P w = .ok ps w
  | [], ps, h => by simp at h; subst h; simp
  | f :: fs, ps, h => by
    rw [List.mapM_cons] at h
    obtain ⟨p, hp, h⟩ := Option.bind_eq_some_iff.1 h
    obtain ⟨r, hr, h⟩ := Option.bind_eq_some_iff.1 h
    injection h with h; subst h
    obtain ⟨i, hi, rfl⟩ := Option.map_eq_some_iff.1 hp
    have h1 : (Prod.mk f.offset <$> sizeOf f.type : Sem (Nat × Nat)).run P w = .ok (f.offset, i.size) w := by simp [sizeOf, typeInfo, hi]
    rw [List.mapM_cons, Sem.run_bind, h1, Result.andThen_ok, Sem.run_bind, run_places P w fs r hr, Result.andThen_ok]
    rfl
theorem pv_buildS {ps : List (Nat × Nat)} {parts : List (Nat × Operand)} {vs : List (Nat × Value)} {zs cells : List Value} (hT : layOf P T = some ps) (hz : zeroT P T = some zs) (hvs : pvs l parts = some vs)
    (hf : Instr.fill (fun i => ps[i]?) zs.toArray vs = some cells.toArray) : PV P l ⟨some d, .build T parts.toArray, ty, pos, af, none⟩ (.agg cells.toArray) := ⟨rfl, fun ρ hρ w => by
  unfold layOf at hT
  cases hu : P.underlying T with
  | none => simp [hu] at hT
  | some u =>
  rw [hu] at hT
  cases u <;> try (simp at hT; done)
  rename_i fs
  have hpl := run_places P w fs.toList ps hT
  unfold zeroT at hz
  obtain ⟨i, hi, hz⟩ := Option.bind_eq_some_iff.1 hz
  obtain ⟨z, hz1, rfl⟩ := Option.map_eq_some_iff.1 hz
  have hp := pvs_map hρ hvs
  simp only [Array.toArray_toList] at hf
  have hpl' : (fs.mapM (m := Sem) fun f => Prod.mk f.offset <$> sizeOf f.type).run P w = .ok ps.toArray w := by
    rw [← Array.toArray_toList (xs := fs), List.mapM_toArray]
    simp [hpl]
  simp [execOp, Instr.build, zeroValue, typeInfo, hi, hz1, run_underlying hu, hpl', hp, hf]⟩

-- calls
def callable (P : Program) (f : FuncId) : Bool := match P.funcs[f]? with
  | some fn => (fn.name != "runtime.NumGoroutine") && fn.body.isSome
  | none => false
theorem run_callFunc {f : FuncId} {args : Array Value} (h : callable P f = true) (w : World) : (callFunc f args).run P w = .ok (.enter f args) w := by
  unfold callable at h
  cases hf : P.funcs[f]? with
  | none => simp [hf] at h
  | some fn =>
    simp [hf] at h
    obtain ⟨h1, h2⟩ := h
    cases hb : fn.body with
    | none => rw [hb] at h2; cases h2
    | some c => simp [callFunc, hf, h1, hb]
/-- What a call's contract leaves to do. -/
def After (P : Program) (n : Md) (ops : Array Oper) (Q : QT) (rest : List Oper) (d : Option Nat) (l : Env) (e : Ending) (w : World) : Prop :=
  (∃ v, e = .returned v ∧ WL P n ops Q rest (match d with | some d => (d, v) :: l | none => l) w) ∨ ∃ ch, e = .panicked ch ∧ QN n Q (.panic ch) l w
theorem WL.enter {op : Op} {od : Option Nat} {f : FuncId} {args : Array Value} {R : Ending → World → Prop} (hop : ∀ c, op ≠ .defer c) (hrun : ∀ ρ, Agr l ρ → (execOp ρ ⟨od, op, ty, pos, af, none⟩).run P w = .ok (.enter f args) w) (hd : ∀ d, od = some d → Nat.blt d n.tmps = true) (hc : Calls P f args w R)
    (K : ∀ e w', R e w' → After P n ops Q rest od l e w') : WL P n ops Q (⟨od, op, ty, pos, af, none⟩ :: rest) l w := fun a hag => by
  unfold wpL
  rw [if_pos (by simp [Region.wanted])]
  refine ⟨hop, ?_⟩
  rw [hrun _ hag.agr]
  refine Calls.mono hc fun e w' h => ?_
  rcases K e w' h with ⟨v, rfl, hk⟩ | ⟨ch, rfl, hk⟩
  · cases od with
    | none => exact hk _ hag
    | some d => exact hk _ (hag.put v (Nat.le_of_ble_eq_true (hd d rfl)))
  · exact hk _ hag
theorem run_call {f : FuncId} {args : List Operand} {vs : List Value} {ts : Array TypeId} {od : Option Nat} (hf : callable P f = true) (ha : evs l args = some vs) (ρ : Operand → Value) (hρ : Agr l ρ) :
    (execOp ρ ⟨od, .call { callee := .value (.func f), args := args.toArray, argTypes := ts }, ty, pos, af, none⟩).run P w = .ok (.enter f vs.toArray) w := by
  have ha' := evs_map hρ ha
  have h1 : ρ (.func f) = .func (.func f) #[] #[] := hρ _ _ rfl
  simp [execOp, resolve, h1, Deferred.ofValue, invoke, ha', run_callFunc hf]
theorem run_callv {x : Operand} {f : FuncId} {cap : List Value} {args : List Operand} {vs : List Value} {ts : Array TypeId} {od : Option Nat} (hx : ev l x = some (.func (.func f) #[] cap.toArray)) (hf : callable P f = true) (ha : evs l args = some vs) (ρ : Operand → Value) (hρ : Agr l ρ) :
    (execOp ρ ⟨od, .call { callee := .value x, args := args.toArray, argTypes := ts }, ty, pos, af, none⟩).run P w = .ok (.enter f (vs ++ cap).toArray) w := by
  have ha' := evs_map hρ ha
  have hx' := hρ _ _ hx
  simp [execOp, resolve, hx', Deferred.ofValue, invoke, ha', run_callFunc hf]
/-- A call by a contract: what comes back is named by what the contract says. -/
theorem WL.call {f : FuncId} {args : List Operand} {vs : List Value} {ts : Array TypeId} {R : Ending → World → Prop} (hf : callable P f = true) (ha : evs l args = some vs) (hd : Nat.blt d n.tmps = true) (hc : Calls P f vs.toArray w R)
    (K : ∀ e w', R e w' → ∃ v, e = .returned v ∧ WL P n ops Q rest ((d, v) :: l) w') :
    WL P n ops Q (⟨some d, .call { callee := .value (.func f), args := args.toArray, argTypes := ts }, ty, pos, af, none⟩ :: rest) l w :=
  WL.enter (fun c h => by cases h) (run_call hf ha) (fun d' h => by injection h with h; subst h; exact hd) hc fun e w' h => .inl (K e w' h)
/-- A call that may pass a panic up. -/
theorem WL.callP {f : FuncId} {args : List Operand} {vs : List Value} {ts : Array TypeId} {R : Ending → World → Prop} (hf : callable P f = true) (ha : evs l args = some vs) (hd : Nat.blt d n.tmps = true) (hc : Calls P f vs.toArray w R)
    (K : ∀ e w', R e w' → After P n ops Q rest (some d) l e w') :
    WL P n ops Q (⟨some d, .call { callee := .value (.func f), args := args.toArray, argTypes := ts }, ty, pos, af, none⟩ :: rest) l w :=
  WL.enter (fun c h => by cases h) (run_call hf ha) (fun d' h => by injection h with h; subst h; exact hd) hc K
theorem WL.call0P {f : FuncId} {args : List Operand} {vs : List Value} {ts : Array TypeId} {R : Ending → World → Prop} (hf : callable P f = true) (ha : evs l args = some vs) (hc : Calls P f vs.toArray w R)
    (K : ∀ e w', R e w' → After P n ops Q rest none l e w') :
    WL P n ops Q (⟨none, .call { callee := .value (.func f), args := args.toArray, argTypes := ts }, ty, pos, af, none⟩ :: rest) l w :=
  WL.enter (fun c h => by cases h) (run_call hf ha) (fun d' h => by cases h) hc K
/-- A call whose result nobody takes up (a function without results, too). -/
theorem WL.call0 {f : FuncId} {args : List Operand} {vs : List Value} {ts : Array TypeId} {R : Ending → World → Prop} (hf : callable P f = true) (ha : evs l args = some vs) (hc : Calls P f vs.toArray w R)
    (K : ∀ e w', R e w' → ∃ v, e = .returned v ∧ WL P n ops Q rest l w') :
    WL P n ops Q (⟨none, .call { callee := .value (.func f), args := args.toArray, argTypes := ts }, ty, pos, af, none⟩ :: rest) l w :=
  WL.call0P hf ha hc fun e w' h => .inl (K e w' h)
/-- A call of a function value (a closure). -/
theorem WL.callv {x : Operand} {f : FuncId} {cap : List Value} {args : List Operand} {vs : List Value} {ts : Array TypeId} {R : Ending → World → Prop} (hx : ev l x = some (.func (.func f) #[] cap.toArray)) (hf : callable P f = true) (ha : evs l args = some vs) (hd : Nat.blt d n.tmps = true) (hc : Calls P f (vs ++ cap).toArray w R)
    (K : ∀ e w', R e w' → ∃ v, e = .returned v ∧ WL P n ops Q rest ((d, v) :: l) w') :
    WL P n ops Q (⟨some d, .call { callee := .value x, args := args.toArray, argTypes := ts }, ty, pos, af, none⟩ :: rest) l w :=
  WL.enter (fun c h => by cases h) (run_callv hx hf ha) (fun d' h => by injection h with h; subst h; exact hd) hc fun e w' h => .inl (K e w' h)
theorem WL.callv0 {x : Operand} {f : FuncId} {cap : List Value} {args : List Operand} {vs : List Value} {ts : Array TypeId} {R : Ending → World → Prop} (hx : ev l x = some (.func (.func f) #[] cap.toArray)) (hf : callable P f = true) (ha : evs l args = some vs) (hc : Calls P f (vs ++ cap).toArray w R)
    (K : ∀ e w', R e w' → ∃ v, e = .returned v ∧ WL P n ops Q rest l w') :
    WL P n ops Q (⟨none, .call { callee := .value x, args := args.toArray, argTypes := ts }, ty, pos, af, none⟩ :: rest) l w :=
  WL.enter (fun c h => by cases h) (run_callv hx hf ha) (fun d' h => by cases h) hc fun e w' h => .inl (K e w' h)

-- a region that draws its order
def WH (P : Program) (n : Md) (ops : Array Oper) (Q : QT) (S : World → Prop) (fuel : Nat) (listed : Array Bool) (l : Env) (w : World) : Prop := ∀ a, Ag n a l → wpAnyH P .any ops Q S fuel listed a w
theorem WC.draw {id : Nat} {lst : List Oper} (S : World → Prop) {fuel : Nat} {listed : Array Bool} (hm : P.follows .mixedOrders = true) (hf : lst.length = fuel) (hl : Array.replicate fuel false = listed)
    (h : WH P n lst.toArray Q S fuel listed l w.drew) (hro : n.ro = none := by rfl) : WC P n (.region id lst.toArray true) Q l w := fun a ha => by
  subst hf; subst hl
  rw [hro]
  exact wpIn_wide.2 (wp_region_held (S := S) hm (by simpa using h a ha))
theorem WH.done {S : World → Prop} {fuel : Nat} {listed : Array Bool} (hr : Region.ready .any ops listed = []) (h : QN n Q .normal l w) : WH P n ops Q S fuel listed l w := fun a ha => wpAnyH_done hr (h a ha) fuel
theorem WH.sub {S : World → Prop} {fuel : Nat} {listed : Array Bool} {m : Env} (hs : Sub l m) (h : WH P n ops Q S fuel listed m w) : WH P n ops Q S fuel listed l w := fun a ha => h a (ha.sub hs)
/-- Taken first: an operation that yields its value in every world that meets S. -/
theorem WH.take {S : World → Prop} {fuel d : Nat} {listed listed' : Array Bool} (i : Nat) {op : Op} (hi : ops[i]? = some ⟨some d, op, ty, pos, af, none⟩) (hs : Region.noSelect ops = true) (hf : Region.free .any ops listed i = true)
    (hr : (Region.ready .any ops listed).contains i = true) (hQ : ∀ c a w, Q (.panic c) (a.put (some d) v) w → Q (.panic c) a w) (hl : listed.setIfInBounds i true = listed')
    (hv : ∀ w, S w → RV P l w ⟨some d, op, ty, pos, af, none⟩ v) (hS : S w) (hd : Nat.blt d n.tmps = true) (k : WH P n ops Q S fuel listed' ((d, v) :: l) w) : WH P n ops Q S (fuel + 1) listed l w := fun a ha => by
  subst hl
  refine wpAnyH_take (i := i) hi hs hf hr hQ (.inl ⟨by simp [Region.wanted], fun w hw => (hv w hw).2 _ ha.agr⟩) hS ?_
  exact k _ (ha.put v (Nat.le_of_ble_eq_true hd))
/-- A guarded operation whose guard is not met, taken first. -/
theorem WH.takeF {S : World → Prop} {fuel d j t : Nat} {b : Bool} {listed listed' : Array Bool} (i : Nat) {op : Op} {g : Oper} (hi : ops[i]? = some ⟨some d, op, ty, pos, af, some (j, b)⟩) (hj : ops[j]? = some g) (ht : g.dst = some t) (hb : lk l t = some (.bool (!b))) (hs : Region.noSelect ops = true) (hf : Region.free .any ops listed i = true)
    (hr : (Region.ready .any ops listed).contains i = true) (hQ : ∀ c a w, Q (.panic c) (a.put (some d) undef) w → Q (.panic c) a w) (hl : listed.setIfInBounds i true = listed')
    (hS : S w) (hd : Nat.blt d n.tmps = true) (k : WH P n ops Q S fuel listed' ((d, undef) :: l) w) : WH P n ops Q S (fuel + 1) listed l w := fun a ha => by
  subst hl
  have hy : yielded ops a.tmps j = some (!b) := by simp [yielded, hj, ht, ha.at_ t _ hb]
  refine wpAnyH_take (i := i) (v := undef) hi hs hf hr hQ (.inr ⟨by simp [Region.wanted, hy], rfl⟩) hS ?_
  exact k _ (ha.put undef (Nat.le_of_ble_eq_true hd))
/-- A guarded operation whose guard is met, taken first. -/
theorem WH.takeT {S : World → Prop} {fuel d j t : Nat} {b : Bool} {listed listed' : Array Bool} (i : Nat) {op : Op} {g : Oper} (hi : ops[i]? = some ⟨some d, op, ty, pos, af, some (j, b)⟩) (hj : ops[j]? = some g) (ht : g.dst = some t) (hb : lk l t = some (.bool b)) (hs : Region.noSelect ops = true) (hf : Region.free .any ops listed i = true)
    (hr : (Region.ready .any ops listed).contains i = true) (hQ : ∀ c a w, Q (.panic c) (a.put (some d) v) w → Q (.panic c) a w) (hl : listed.setIfInBounds i true = listed')
    (hv : ∀ w, S w → RV P l w ⟨some d, op, ty, pos, af, none⟩ v) (hS : S w) (hd : Nat.blt d n.tmps = true) (k : WH P n ops Q S fuel listed' ((d, v) :: l) w) : WH P n ops Q S (fuel + 1) listed l w := fun a ha => by
  subst hl
  have hy : yielded ops a.tmps j = some b := by simp [yielded, hj, ht, ha.at_ t _ hb]
  refine wpAnyH_take (i := i) hi hs hf hr hQ (.inl ⟨by simp [Region.wanted, hy], fun w hw => ?_⟩) hS ?_
  · have := (hv w hw).2 _ ha.agr
    simpa [execOp] using this
  · exact k _ (ha.put v (Nat.le_of_ble_eq_true hd))
theorem wpOp_of_WL {S : World → Prop} {fuel : Nat} {listed' : Array Bool} {i : Nat} {o : Oper} (hi : ops[i]? = some o) (hrd : n.rd = false)
    (k : WL P n ops (Exit.then (fun a w => S w ∧ wpAnyH P .any ops Q S fuel listed' a w) Q) [o] l w) {a : Act} (ha : Ag n a l) : wpOp P ops Q i (fun a' w' => S w' ∧ wpAnyH P .any ops Q S fuel listed' a' w') a w := by
  have h1 := k a ha
  rw [hrd] at h1
  have h := wpL_list _ _ _ h1
  unfold wpList at h
  unfold wpOp
  simp only [hi]
  split
  · rename_i hw
    rw [if_pos hw] at h
    rcases h with h | ⟨h1, a', w', h2⟩
    · refine .inl ?_
      unfold Oper.wp at h ⊢
      generalize (execOp a.eval o).run P w = r at h ⊢
      cases r with
      | ok x w' =>
        cases x <;> simp only [Oper.upon] at h ⊢ <;> first
          | exact h
          | exact h.mono fun e w'' he => by
              cases e <;> first | exact he | (obtain ⟨a', w3, he⟩ := he; exact ⟨a', w3, he⟩)
      | halt x w' => cases x <;> simp only [Oper.upon] at h ⊢ <;> exact h
    · exact .inr ⟨h1, a', w', h2⟩
  · rename_i hw
    rw [if_neg hw] at h
    exact h
/-- What is left may come up in one way only. -/
theorem WH.one {S : World → Prop} {fuel : Nat} {listed listed' : Array Bool} (i : Nat) {o : Oper} (hi : ops[i]? = some o) (hr : Region.ready .any ops listed = [i]) (hl : listed.setIfInBounds i true = listed')
    (k : WL P n ops (Exit.then (fun a w => S w ∧ wpAnyH P .any ops Q S fuel listed' a w) Q) [o] l w) (hrd : n.rd = false := by rfl) : WH P n ops Q S (fuel + 1) listed l w := fun a ha => by
  subst hl
  refine wpAnyH_all hr (by simp) fun j hj => ?_
  obtain rfl : j = i := by simpa using hj
  exact wpOp_of_WL hi hrd k ha
theorem QN.held {S : World → Prop} {fuel : Nat} {listed : Array Bool} (hS : S w) (h : WH P n ops Q S fuel listed l w) : QN n (Exit.then (fun a w => S w ∧ wpAnyH P .any ops Q S fuel listed a w) Q) .normal l w := fun a ha => ⟨hS, h a ha⟩
end

-- results that lie in cells
section
variable {P : Program} {n : Md} {fn : Func} {R : Ending → World → Prop} {l : Env} {w : World}
theorem QN.retC {t T b : Nat} {cs : List Value} (hr : fn.results = #[.cell t T]) (hv : lk l t = some (.pointer (some ⟨b, 0, none⟩))) (hT : aggT P T = some cs.length) (hc : ∀ j u, cs[j]? = some u → w.cell? ⟨b, 0 + j, none⟩ = some u) (h : R (.returned (.agg cs.toArray)) w) (hds : n.ds = [] := by rfl) :
    QN n (bodyPost P fn R) .ret l w := fun a ha =>
  bodyPost_ret (v := .agg cs.toArray) (by have h1 := ha.at_ t _ hv; simp [results, hr, Array.getD_eq_getD_getElem?, h1, asAddr, run_loadAgg hT hc]) (ha.defers.trans hds) h
theorem QN.retCT {t T b u : Nat} {cs : List Value} {x : Value} (hr : fn.results = #[.cell t T, .tmp u]) (hv : lk l t = some (.pointer (some ⟨b, 0, none⟩))) (hT : aggT P T = some cs.length) (hc : ∀ j u, cs[j]? = some u → w.cell? ⟨b, 0 + j, none⟩ = some u) (hx : lk l u = some x) (h : R (.returned (.tuple #[.agg cs.toArray, x])) w) (hds : n.ds = [] := by rfl) :
    QN n (bodyPost P fn R) .ret l w := fun a ha =>
  bodyPost_ret (v := .tuple #[.agg cs.toArray, x]) (by have h1 := ha.at_ t _ hv; have h2 := ha.at_ u _ hx; simp [results, hr, Array.getD_eq_getD_getElem?, h1, h2, asAddr, run_loadAgg hT hc]) (ha.defers.trans hds) h
theorem QN.retCC {t T b t' T' b' : Nat} {cs cs' : List Value} (hr : fn.results = #[.cell t T, .cell t' T']) (hv : lk l t = some (.pointer (some ⟨b, 0, none⟩))) (hT : aggT P T = some cs.length) (hc : ∀ j u, cs[j]? = some u → w.cell? ⟨b, 0 + j, none⟩ = some u)
    (hv' : lk l t' = some (.pointer (some ⟨b', 0, none⟩))) (hT' : aggT P T' = some cs'.length) (hc' : ∀ j u, cs'[j]? = some u → w.cell? ⟨b', 0 + j, none⟩ = some u) (h : R (.returned (.tuple #[.agg cs.toArray, .agg cs'.toArray])) w) (hds : n.ds = [] := by rfl) :
    QN n (bodyPost P fn R) .ret l w := fun a ha =>
  bodyPost_ret (v := .tuple #[.agg cs.toArray, .agg cs'.toArray]) (by have h1 := ha.at_ t _ hv; have h2 := ha.at_ t' _ hv'; simp [results, hr, Array.getD_eq_getD_getElem?, h1, h2, asAddr, run_loadAgg hT hc, run_loadAgg hT' hc']) (ha.defers.trans hds) h
end
end Go.Eng
