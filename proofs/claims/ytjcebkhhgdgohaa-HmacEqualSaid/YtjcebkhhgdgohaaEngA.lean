/- The engine: rules by which a run of a function is read off, part A. -/
import Derived.WalkKit
import Derived.WalkLawsBesides
import Derived.Deep.LoopGhost
import Derived.Deep.RegionHeld
import Derived.TacticsIn
namespace Go.Eng
open Go Go.RowKit

abbrev Env := List (Nat × Value)

def lk : Env → Nat → Option Value
  | [], _ => none
  | (k, v) :: r, t => cond (Nat.beq k t) (some v) (lk r t)

def ev (l : Env) : Operand → Option Value
  | .tmp t => lk l t
  | .const v => some v
  | .global g => some (.pointer (some ⟨g, 0, none⟩))
  | .func f => some (.func (.func f) #[] #[])

def evs (l : Env) : List Operand → Option (List Value)
  | [] => some []
  | x :: r => match ev l x, evs l r with
    | some v, some vs => some (v :: vs)
    | _, _ => none

/-- What an activation is: how many temporaries, in a round of which loop, what is deferred; whether it may call a round. -/
structure Md where
  tmps : Nat
  ro : Option Nat
  ds : List Deferred
  rd : Bool
@[reducible] def md (n : Nat) : Md := ⟨n, none, [], false⟩
def Fnc (ro : Option Nat) : Fence := { fn := fun _ => True, depth := none, alive := false, round := ro }

structure Ag (n : Md) (a : Act) (l : Env) : Prop where
  size : a.tmps.size = n.tmps
  defers : a.defers = n.ds
  at_ : ∀ t v, lk l t = some v → a.tmps[t]? = some v

theorem Ag.eval {n : Md} {a : Act} {l : Env} (h : Ag n a l) {x : Operand} {v : Value} (hx : ev l x = some v) : a.eval x = v := by
  cases x with
  | tmp t => simp only [ev] at hx; have := h.at_ t v hx; simp [Act.eval, Array.getD_eq_getD_getElem?, this]
  | const u => injection hx
  | global g => injection hx
  | func f => injection hx

theorem lk_cons_ne {k t : Nat} {v : Value} {l : Env} (h : k ≠ t) : lk ((k, v) :: l) t = lk l t := by
  have : Nat.beq k t = false := by
    cases hb : Nat.beq k t with
    | false => rfl
    | true => exact absurd (Nat.eq_of_beq_eq_true hb) h
  simp [lk, this]
theorem lk_cons_eq {k : Nat} {v : Value} {l : Env} : lk ((k, v) :: l) k = some v := by
  simp [lk]

theorem Ag.put {n : Md} {a : Act} {l : Env} (h : Ag n a l) {d : Nat} (v : Value) (hd : d < n.tmps) : Ag n (a.put (some d) v) ((d, v) :: l) := by
  refine ⟨by simp [Act.put, h.size], by simp [Act.put, h.defers], ?_⟩
  intro t u hu
  simp only [Act.put]
  by_cases e : d = t
  · subst e
    rw [lk_cons_eq] at hu
    injection hu with hu; subst hu
    have : d < a.tmps.size := by rw [h.size]; exact hd
    rw [Array.getElem?_setIfInBounds_self_of_lt this]
  · rw [lk_cons_ne e] at hu
    rw [Array.getElem?_setIfInBounds_ne e]
    exact h.at_ t u hu

/-- An env that knows less. -/
def Sub (l m : Env) : Prop := ∀ t v, lk m t = some v → lk l t = some v
theorem Sub.nil {l : Env} : Sub l [] := fun t v h => by simp [lk] at h
theorem Sub.cons {l m : Env} {k : Nat} {v : Value} (h : lk l k = some v) (hs : Sub l m) : Sub l ((k, v) :: m) := fun t u hu => by
  by_cases e : k = t
  · subst e; rw [lk_cons_eq] at hu; rw [h]; exact hu
  · rw [lk_cons_ne e] at hu; exact hs t u hu
theorem Sub.refl {l : Env} : Sub l l := fun _ _ h => h
theorem Ag.sub {n : Md} {a : Act} {l m : Env} (h : Ag n a l) (hs : Sub l m) : Ag n a m := ⟨h.size, h.defers, fun t v hv => h.at_ t v (hs t v hv)⟩

abbrev QT := Exit → Act → World → Prop

/-- What an operation does, and what is asked behind it. -/
def upW (P : Program) (rd : Bool) (o : Oper) (a : Act) (next : Act → World → Prop) (Q : QT) : Result Next → Prop
  | .ok (.value v) w' => next (a.put o.dst v) w'
  | .ok .skip w' => next (a.put o.dst undef) w'
  | .ok (.enter f args) w' => Calls P f args w' fun
      | .returned v, w'' => next (a.put o.dst v) w''
      | .panicked chain, w'' => Q (.panic chain) a w''
      | .outgrown, _ => False
  | .ok (.round l f tmps assign body) w' => rd = true ∧ RoundIn (Fnc none) 0 P l f tmps assign body w' fun
      | .returned v, w'' => next (a.put o.dst v) w''
      | .panicked chain, w'' => Q (.panic chain) a w''
      | .outgrown, _ => False
  | .halt (.panic v) w' => Q (.panic [{ v, recovered := false }]) a w'
  | _ => False
def wpL (P : Program) (rd : Bool) (ops : Array Oper) (Q : QT) : List Oper → Act → World → Prop
  | [], a, w => Q .normal a w
  | o :: rest, a, w => if Region.wanted o (yielded ops a.tmps) then (∀ c, o.op ≠ .defer c) ∧ upW P rd o a (wpL P rd ops Q rest) Q ((execOp a.eval o).run P w) else wpL P rd ops Q rest (a.put o.dst undef) w
theorem wpL_in {P : Program} {rd : Bool} {ro : Option Nat} {ops : Array Oper} {Q : QT} : ∀ (rest : List Oper) (a : Act) (w : World), wpL P rd ops Q rest a w → wpListIn (Fnc ro) 0 P ops Q rest a w
  | [], _, _, h => h
  | o :: rest, a, w, h => by
    unfold wpL at h
    unfold wpListIn
    split
    · rename_i hw
      rw [if_pos hw] at h
      obtain ⟨hd, h⟩ := h
      refine ⟨fun _ _ => trivial, ?_⟩
      rw [show (Fnc ro).round = ro from rfl, Oper.semAt_eq ro _ _ hd]
      generalize (execOp a.eval o).run P w = r at h ⊢
      cases r with
      | ok x w' =>
        cases x with
        | value v => exact wpL_in rest _ _ h
        | skip => exact wpL_in rest _ _ h
        | enter f args =>
          refine ⟨fun h => by simp [Fnc] at h, ?_⟩
          have h2 : CallsIn Fence.wide (0 - 1) P f args w' _ := callsIn_wide.2 h
          refine ⟨trivial, fun cs hr => ?_⟩
          obtain ⟨e, w2, fr, hR, hc⟩ := h2.2 cs (room_wide _)
          refine ⟨e, w2, fr, ?_, hc⟩
          cases e with
          | returned v => exact wpL_in rest _ _ hR
          | panicked ch => exact hR
          | outgrown => exact hR.elim
        | round l f tmps assign body =>
          obtain ⟨_, h⟩ := h
          refine ⟨fun h => by simp [Fnc] at h, trivial, fun c cs hr => ?_⟩
          obtain ⟨e, w2, hR, hc⟩ := h.2 c cs (fun d hd => by simp [Fnc] at hd)
          refine ⟨e, w2, ?_, hc⟩
          cases e with
          | returned v => exact wpL_in rest _ _ hR
          | panicked ch => exact hR
          | outgrown => exact hR.elim
        | _ => exact h.elim
      | halt x w' => cases x with
        | panic v => exact h
        | _ => exact h.elim
    · rename_i hw
      rw [if_neg hw] at h
      exact ⟨fun _ _ => trivial, wpL_in rest _ _ h⟩
theorem wpL_list {P : Program} {ops : Array Oper} {Q : QT} : ∀ (rest : List Oper) (a : Act) (w : World), wpL P false ops Q rest a w → wpList P ops Q rest a w
  | [], _, _, h => h
  | o :: rest, a, w, h => by
    unfold wpL at h
    unfold wpList
    split
    · rename_i hw
      rw [if_pos hw] at h
      obtain ⟨hd, h⟩ := h
      refine .inl ?_
      unfold Oper.wp
      generalize (execOp a.eval o).run P w = r at h ⊢
      cases r with
      | ok x w' =>
        cases x with
        | value v => exact wpL_list rest _ _ h
        | skip => exact wpL_list rest _ _ h
        | enter f args =>
          have h2 : Calls P f args w' _ := h
          refine Calls.mono h2 fun e w2 hR => ?_
          cases e with
          | returned v => exact wpL_list rest _ _ hR
          | panicked ch => exact hR
          | outgrown => exact hR.elim
        | round l f tmps assign body => cases h.1
        | _ => exact h.elim
      | halt x w' => cases x with
        | panic v => exact h
        | _ => exact h.elim
    · rename_i hw
      rw [if_neg hw] at h
      exact wpL_list rest _ _ h

def WC (P : Program) (n : Md) (c : Code) (Q : QT) (l : Env) (w : World) : Prop := ∀ a, Ag n a l → c.wpIn (Fnc n.ro) 0 P Q a w
def WL (P : Program) (n : Md) (ops : Array Oper) (Q : QT) (rest : List Oper) (l : Env) (w : World) : Prop := ∀ a, Ag n a l → wpL P n.rd ops Q rest a w
def QN (n : Md) (Q : QT) (e : Exit) (l : Env) (w : World) : Prop := ∀ a, Ag n a l → Q e a w

section
variable {P : Program} {n : Md} {ops : Array Oper} {Q : QT} {rest : List Oper} {l : Env} {w : World}

theorem WC.sub {c : Code} {m : Env} (hs : Sub l m) (h : WC P n c Q m w) : WC P n c Q l w := fun a ha => h a (ha.sub hs)
theorem WL.sub {m : Env} (hs : Sub l m) (h : WL P n ops Q rest m w) : WL P n ops Q rest l w := fun a ha => h a (ha.sub hs)
theorem QN.sub {e : Exit} {m : Env} (hs : Sub l m) (h : QN n Q e m w) : QN n Q e l w := fun a ha => h a (ha.sub hs)

-- control
theorem WC.seq {x y : Code} (h : WC P n x (Exit.then (Code.wpIn (Fnc n.ro) 0 P y Q) Q) l w) : WC P n (.seq x y) Q l w := fun a ha => wpIn_seq (h a ha)
theorem WC.block {id : Nat} {c : Code} (h : WC P n c (Exit.inBlock id Q) l w) : WC P n (.block id c) Q l w := fun a ha => wpIn_block (h a ha)
theorem WC.skip (h : QN n Q .normal l w) : WC P n .skip Q l w := fun a ha => wpIn_skip (h a ha)
theorem WC.exit {id : Nat} (h : QN n Q (.exit id) l w) : WC P n (.exit id) Q l w := fun a ha => wpIn_exit (h a ha)
theorem WC.ret (h : QN n Q .ret l w) : WC P n .ret Q l w := fun a ha => wpIn_ret (h a ha)
theorem WC.region {id : Nat} {lst : List Oper} (h : WL P n lst.toArray Q lst l w) : WC P n (.region id lst.toArray false) Q l w := fun a ha => wpIn_region_lit (wpL_in _ _ _ (h a ha))
theorem WL.nil (h : QN n Q .normal l w) : WL P n ops Q [] l w := fun a ha => h a ha
theorem WC.cond {c : Operand} {x y : Code} {t : Bool} (hc : ev l c = some (.bool t)) (ht : t = true → WC P n x Q l w) (hf : t = false → WC P n y Q l w) : WC P n (.cond c x y) Q l w := fun a ha =>
  wpIn_cond_split (ha.eval hc) (fun h => ht h a ha) (fun h => hf h a ha)
theorem WC.condT {c : Operand} {x y : Code} {t : Bool} (hc : ev l c = some (.bool t)) (h0 : t = true) (ht : WC P n x Q l w) : WC P n (.cond c x y) Q l w :=
  WC.cond hc (fun _ => ht) (fun h => by rw [h0] at h; cases h)
theorem WC.condF {c : Operand} {x y : Code} {t : Bool} (hc : ev l c = some (.bool t)) (h0 : t = false) (hf : WC P n y Q l w) : WC P n (.cond c x y) Q l w :=
  WC.cond hc (fun h => by rw [h0] at h; cases h) (fun _ => hf)
theorem WC.condD {c : Operand} {x y : Code} {p : Prop} [Decidable p] (hc : ev l c = some (.bool (decide p))) (ht : p → WC P n x Q l w) (hf : ¬ p → WC P n y Q l w) : WC P n (.cond c x y) Q l w :=
  WC.cond hc (fun h => ht (of_decide_eq_true h)) (fun h => hf (of_decide_eq_false h))
theorem WC.condDT {c : Operand} {x y : Code} {p : Prop} [Decidable p] (hc : ev l c = some (.bool (decide p))) (h : p) (ht : WC P n x Q l w) : WC P n (.cond c x y) Q l w :=
  WC.condT hc (decide_eq_true h) ht
theorem WC.condDF {c : Operand} {x y : Code} {p : Prop} [Decidable p] (hc : ev l c = some (.bool (decide p))) (h : ¬ p) (hf : WC P n y Q l w) : WC P n (.cond c x y) Q l w :=
  WC.condF hc (decide_eq_false h) hf
/-- A cut between two pieces of code: what holds behind the first. -/
theorem WC.cut {α : Type} {x y : Code} (I : α → Env) (R : α → World → Prop)
    (h : WC P n x (Exit.then (fun a w => ∃ s, Ag n a (I s) ∧ R s w) Q) l w) (k : ∀ s w, R s w → WC P n y Q (I s) w) : WC P n (.seq x y) Q l w := fun a ha =>
  wpIn_seq (wpIn_mono (h a ha) fun e a' w' q => by
    cases e with
    | normal => obtain ⟨s, hs, hr⟩ := q; exact k s w' hr a' hs
    | _ => exact q)
theorem QN.mid {α : Type} {I : α → Env} {R : α → World → Prop} (s : α) (hs : Sub l (I s)) (hr : R s w) :
    QN n (Exit.then (fun a w => ∃ s, Ag n a (I s) ∧ R s w) Q) .normal l w := fun _ ha => ⟨s, ha.sub hs, hr⟩
/-- A loop. -/
theorem WC.loop {α : Type} {c : Code} (I : α → Env) (R : α → World → Prop) (μ : α → Nat) (s₀ : α) (hI : Sub l (I s₀)) (hR : R s₀ w)
    (round : ∀ s w N, N = μ s → R s w → WC P n c (Exit.then (fun a w => ∃ s', Ag n a (I s') ∧ R s' w ∧ μ s' < N) Q) (I s) w) : WC P n (.loop c) Q l w := fun a ha => by
  refine wpIn_loop (fun a w => ∃ s, Ag n a (I s) ∧ R s w) (fun a w => leastOf fun m => ∃ s, m = μ s ∧ Ag n a (I s) ∧ R s w) ⟨s₀, ha.sub hI, hR⟩ ?_
  intro a w hx
  obtain ⟨s1, h1⟩ := hx
  have hex : ∃ m, ∃ s, m = μ s ∧ Ag n a (I s) ∧ R s w := ⟨_, s1, rfl, h1⟩
  obtain ⟨⟨s, hm, hs, hr⟩, _⟩ := leastOf_spec hex
  refine wpIn_mono (round s w _ hm hr a hs) ?_
  intro e a' w' q
  cases e with
  | normal =>
    obtain ⟨s', h1, h2, h3⟩ := q
    exact ⟨⟨s', h1, h2⟩, Nat.lt_of_le_of_lt ((leastOf_spec ⟨_, s', rfl, h1, h2⟩).2 _ ⟨s', rfl, h1, h2⟩) h3⟩
  | _ => exact q
theorem QN.roundE {α : Type} {I : α → Env} {R : α → World → Prop} {μ : α → Nat} {N : Nat} (h : ∃ s', Sub l (I s') ∧ R s' w ∧ μ s' < N) :
    QN n (Exit.then (fun a w => ∃ s', Ag n a (I s') ∧ R s' w ∧ μ s' < N) Q) .normal l w := fun _ ha => by
  obtain ⟨s', hs, hr, hm⟩ := h
  exact ⟨s', ha.sub hs, hr, hm⟩
theorem QN.midE {α : Type} {I : α → Env} {R : α → World → Prop} (h : ∃ s, Sub l (I s) ∧ R s w) :
    QN n (Exit.then (fun a w => ∃ s, Ag n a (I s) ∧ R s w) Q) .normal l w := fun _ ha => by
  obtain ⟨s, hs, hr⟩ := h
  exact ⟨s, ha.sub hs, hr⟩
-- exits
theorem QN.thenW {y : Code} (h : WC P n y Q l w) : QN n (Exit.then (Code.wpIn (Fnc n.ro) 0 P y Q) Q) .normal l w := h
theorem QN.thenX {K : Act → World → Prop} {i : Nat} (h : QN n Q (.exit i) l w) : QN n (Exit.then K Q) (.exit i) l w := h
theorem QN.thenR {K : Act → World → Prop} (h : QN n Q .ret l w) : QN n (Exit.then K Q) .ret l w := h
theorem QN.blockN {i : Nat} (h : QN n Q .normal l w) : QN n (Exit.inBlock i Q) .normal l w := h
theorem QN.blockR {i : Nat} (h : QN n Q .ret l w) : QN n (Exit.inBlock i Q) .ret l w := h
theorem QN.blockX {i : Nat} (h : QN n Q .normal l w) : QN n (Exit.inBlock i Q) (.exit i) l w := fun a ha => by simpa [Exit.inBlock] using h a ha
theorem QN.blockY {i j : Nat} (hj : Nat.beq j i = false) (h : QN n Q (.exit j) l w) : QN n (Exit.inBlock i Q) (.exit j) l w := fun a ha => by
  have : ¬ j = i := fun e => by subst e; rw [Nat.beq_refl] at hj; cases hj
  simpa [Exit.inBlock, this] using h a ha
end

-- entry
theorem Ag.enter (args : List Value) (m n : Nat) (hn : args.length + m = n) :
    Ag (md n) { tmps := args.toArray ++ Array.replicate m undef, defers := [] } ((List.range args.length).zip args) := by
  refine ⟨by simp [hn], rfl, ?_⟩
  intro t v hv
  have key : ∀ (k : Nat) (as : List Value) (t : Nat) (v : Value), lk ((List.range' k as.length).zip as) t = some v → k ≤ t ∧ as[t - k]? = some v := by
    intro k as
    induction as generalizing k with
    | nil => intro t v h; simp [lk] at h
    | cons x xs ih =>
      intro t v h
      simp only [List.length_cons, List.range'_succ, List.zip_cons_cons] at h
      by_cases e : k = t
      · subst e; rw [lk_cons_eq] at h; simpa using h
      · rw [lk_cons_ne e] at h
        obtain ⟨h1, h2⟩ := ih (k + 1) t v h
        refine ⟨by omega, ?_⟩
        obtain ⟨j, rfl⟩ : ∃ j, t = k + 1 + j := ⟨t - (k + 1), by omega⟩
        have e1 : k + 1 + j - k = j + 1 := by omega
        have e2 : k + 1 + j - (k + 1) = j := by omega
        rw [e1]; rw [e2] at h2; simpa using h2
  rw [List.range_eq_range'] at hv
  obtain ⟨_, h2⟩ := key 0 args t v hv
  simp only [Nat.sub_zero] at h2
  have hlt : t < args.length := by
    rcases Nat.lt_or_ge t args.length with h | h
    · exact h
    · rw [List.getElem?_eq_none h] at h2; cases h2
  show (args.toArray ++ Array.replicate m undef)[t]? = some v
  rw [Array.getElem?_append_left (by simpa using hlt)]
  simpa using h2

theorem calls_of_WC {P : Program} {f : FuncId} {fn : Func} {c : Code} {args : List Value} {w : World} {R : Ending → World → Prop} {n : Nat}
    (hf : P.funcs[f]? = some fn) (hb : fn.body = some c) (hn : fn.ntmps = n) (hle : Nat.ble args.length n = true)
    (h : WC P (md n) c (bodyPost P fn R) ((List.range args.length).zip args) w) : Calls P f args.toArray w R := by
  refine calls_of_wp hf hb ?_
  refine wpIn_wide.1 (h _ ?_)
  have hle' : args.length ≤ n := Nat.le_of_ble_eq_true hle
  have := Ag.enter args (fn.ntmps - args.toArray.size) n (by simp [hn]; omega)
  exact this

-- results
theorem QN.ret0 {P : Program} {n : Md} {fn : Func} {R : Ending → World → Prop} {l : Env} {w : World} (hr : fn.results = #[]) (h : R (.returned (.tuple #[])) w) (hds : n.ds = [] := by rfl) : QN n (bodyPost P fn R) .ret l w := fun a ha =>
  bodyPost_ret (v := .tuple #[]) (by simp [results, hr]) (ha.defers.trans hds) h
theorem QN.end0 {P : Program} {n : Md} {fn : Func} {R : Ending → World → Prop} {l : Env} {w : World} (hr : fn.results = #[]) (h : R (.returned (.tuple #[])) w) (hds : n.ds = [] := by rfl) : QN n (bodyPost P fn R) .normal l w := fun a ha =>
  bodyPost_end (v := .tuple #[]) (by simp [results, hr]) (ha.defers.trans hds) h
theorem QN.ret1 {P : Program} {n : Md} {fn : Func} {R : Ending → World → Prop} {l : Env} {w : World} {t : Nat} {v : Value} (hr : fn.results = #[.tmp t]) (hv : lk l t = some v) (h : R (.returned v) w) (hds : n.ds = [] := by rfl) : QN n (bodyPost P fn R) .ret l w := fun a ha =>
  bodyPost_ret (v := v) (by have := ha.at_ t v hv; simp [results, hr, Array.getD_eq_getD_getElem?, this]) (ha.defers.trans hds) h
theorem QN.ret2 {P : Program} {n : Md} {fn : Func} {R : Ending → World → Prop} {l : Env} {w : World} {t u : Nat} {v x : Value} (hr : fn.results = #[.tmp t, .tmp u]) (hv : lk l t = some v) (hx : lk l u = some x) (h : R (.returned (.tuple #[v, x])) w) (hds : n.ds = [] := by rfl) : QN n (bodyPost P fn R) .ret l w := fun a ha =>
  bodyPost_ret (v := .tuple #[v, x]) (by have h1 := ha.at_ t v hv; have h2 := ha.at_ u x hx; simp [results, hr, Array.getD_eq_getD_getElem?, h1, h2]) (ha.defers.trans hds) h
end Go.Eng
