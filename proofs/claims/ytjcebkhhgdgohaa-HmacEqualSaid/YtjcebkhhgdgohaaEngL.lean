/- The engine: rules by which a run of a function is read off, part L. -/
import Derived.Test.YtjcebkhhgdgohaaEngK
namespace Go.Eng
open Go Go.RowKit
section
variable {P : Program} {n : Md} {ops : Array Oper} {Q : QT} {rest : List Oper} {l : Env} {w w0 : World} {M : Nat → Prop} {hp : List Ent} {d : Nat} {ty : TypeId} {pos : String} {af : Array Edge} {v : Value} {T U : TypeId} {x y z : Operand}
theorem lkF {t : Nat} {p : Prop} [Decidable p] (h : lk l t = some (.bool (decide p))) (hp : ¬ p) : lk l t = some (.bool false) := by rw [h, decide_eq_false hp]
theorem lkT {t : Nat} {p : Prop} [Decidable p] (h : lk l t = some (.bool (decide p))) (hp : p) : lk l t = some (.bool true) := by rw [h, decide_eq_true hp]
theorem lkB {t : Nat} {a b : Bool} (h : lk l t = some (.bool a)) (hp : a = b) : lk l t = some (.bool b) := by rw [h, hp]
theorem pv_pickT {c x y : Operand} {t : Bool} (hc : ev l c = some (.bool t)) (ht : t = true) (hx : ev l x = some v) : PV P l ⟨some d, .pick c x y, ty, pos, af, none⟩ v := by
  subst ht; exact pv_pick hc (by simpa using hx)
theorem pv_pickF {c x y : Operand} {t : Bool} (hc : ev l c = some (.bool t)) (ht : t = false) (hx : ev l y = some v) : PV P l ⟨some d, .pick c x y, ty, pos, af, none⟩ v := by
  subst ht; exact pv_pick hc (by simpa using hx)
theorem pv_pick1 {t : Nat} {x y : Operand} (hc : lk l t = some (.bool true)) (hx : ev l x = some v) : PV P l ⟨some d, .pick (.tmp t) x y, ty, pos, af, none⟩ v := pv_pick hc (by simpa using hx)
theorem pv_pick0 {t : Nat} {x y : Operand} (hc : lk l t = some (.bool false)) (hx : ev l y = some v) : PV P l ⟨some d, .pick (.tmp t) x y, ty, pos, af, none⟩ v := pv_pick hc (by simpa using hx)
theorem udiv_wrap (k : IntKind) (hk : k.signed = false) (a b : Nat) (ha : a < 2 ^ k.bits) : k.wrap ((a : Int).tdiv b) = ((a / b : Nat) : Int) := by
  rw [Int.tdiv_eq_ediv_of_nonneg (by omega), ← Int.natCast_ediv, wrap_u_nat k hk, Nat.mod_eq_of_lt (Nat.lt_of_le_of_lt (Nat.div_le_self a b) ha)]
theorem pv_quo64u {a b : UInt64} (hx : ev l x = some (w64 a)) (hy : ev l y = some (w64 b)) (hb : ¬ b.toNat = 0) : PV P l ⟨some d, .binOp .quo T x y U, ty, pos, af, none⟩ (w64 (a / b)) := pv_bin hx hy fun w => by
  have hb' : ¬ ((b.toNat : Int) = 0) := by omega
  simp only [binOp, Op.intDiv, ne_eq, not_true, if_false, hb']
  rw [udiv_wrap .u64 rfl _ _ a.toNat_lt, ← UInt64.toNat_div]; rfl
theorem pv_rem64u {a b : UInt64} (hx : ev l x = some (w64 a)) (hy : ev l y = some (w64 b)) (hb : ¬ b.toNat = 0) : PV P l ⟨some d, .binOp .rem T x y U, ty, pos, af, none⟩ (w64 (a % b)) := pv_bin hx hy fun w => by
  have hb' : ¬ ((b.toNat : Int) = 0) := by omega
  simp only [binOp, Op.intDiv, ne_eq, not_true, if_false, hb']
  rw [Int.tmod_eq_emod_of_nonneg (by omega), ← Int.natCast_emod, ← UInt64.toNat_mod]; rfl
theorem pv_addStr {a b : ByteArray} (hx : ev l x = some (.string a)) (hy : ev l y = some (.string b)) (h : a.size + b.size ≤ 9223372036854775807) : PV P l ⟨some d, .binOp .add T x y U, ty, pos, af, none⟩ (.string (a ++ b)) := ⟨rfl, fun ρ hρ w => by
  simp only [execOp, hρ _ _ hx, hρ _ _ hy, eqGuard, binOp, Op.stringOp]
  simp
  try omega⟩
theorem pv_eqlStr {a b : ByteArray} (hx : ev l x = some (.string a)) (hy : ev l y = some (.string b)) : PV P l ⟨some d, .binOp .eql T x y U, ty, pos, af, none⟩ (.bool (a.toList == b.toList)) := ⟨rfl, fun ρ hρ w => by
  simp only [execOp, hρ _ _ hx, hρ _ _ hy, eqGuard, binOp, Op.stringOp]
  simp⟩
theorem pv_neqStr {a b : ByteArray} (hx : ev l x = some (.string a)) (hy : ev l y = some (.string b)) : PV P l ⟨some d, .binOp .neq T x y U, ty, pos, af, none⟩ (.bool !(a.toList == b.toList)) := ⟨rfl, fun ρ hρ w => by
  simp only [execOp, hρ _ _ hx, hρ _ _ hy, eqGuard, binOp, Op.stringOp]
  simp⟩
theorem QN.retK {fn : Func} {R : Ending → World → Prop} {t T b k : Nat} {tt : TypeId} {cs : List Value} (hr : fn.results = #[.cell t T]) (hv : lk l t = some (.pointer (some ⟨b, 0, none⟩))) (hS : ST w0 M w hp) (hk : hp[k]? = some (.blk b tt cs)) (hT : aggT P T = some cs.length) (h : R (.returned (.agg cs.toArray)) w) (hds : n.ds = [] := by rfl) :
    QN n (bodyPost P fn R) .ret l w := QN.retC hr hv hT (fun j u hu => by rw [Nat.zero_add]; exact hS.cell hk hu) h hds
theorem QN.retKT {fn : Func} {R : Ending → World → Prop} {t T b k u : Nat} {tt : TypeId} {cs : List Value} (hr : fn.results = #[.cell t T, .tmp u]) (hv : lk l t = some (.pointer (some ⟨b, 0, none⟩))) (hS : ST w0 M w hp) (hk : hp[k]? = some (.blk b tt cs)) (hT : aggT P T = some cs.length) (hx : lk l u = some v) (h : R (.returned (.tuple #[.agg cs.toArray, v])) w) (hds : n.ds = [] := by rfl) :
    QN n (bodyPost P fn R) .ret l w := QN.retCT hr hv hT (fun j u hu => by rw [Nat.zero_add]; exact hS.cell hk hu) hx h hds
theorem QN.retKK {fn : Func} {R : Ending → World → Prop} {t T b k t' T' b' k' : Nat} {tt tt' : TypeId} {cs cs' : List Value} (hr : fn.results = #[.cell t T, .cell t' T']) (hv : lk l t = some (.pointer (some ⟨b, 0, none⟩))) (hv' : lk l t' = some (.pointer (some ⟨b', 0, none⟩))) (hS : ST w0 M w hp) (hk : hp[k]? = some (.blk b tt cs)) (hk' : hp[k']? = some (.blk b' tt' cs')) (hT : aggT P T = some cs.length) (hT' : aggT P T' = some cs'.length) (h : R (.returned (.tuple #[.agg cs.toArray, .agg cs'.toArray])) w) (hds : n.ds = [] := by rfl) :
    QN n (bodyPost P fn R) .ret l w := QN.retCC hr hv hT (fun j u hu => by rw [Nat.zero_add]; exact hS.cell hk hu) hv' hT' (fun j u hu => by rw [Nat.zero_add]; exact hS.cell hk' hu) h hds
theorem QN.ret3 {fn : Func} {R : Ending → World → Prop} {t u s : Nat} {x y : Value} (hr : fn.results = #[.tmp t, .tmp u, .tmp s]) (hv : lk l t = some v) (hx : lk l u = some x) (hy : lk l s = some y) (h : R (.returned (.tuple #[v, x, y])) w) (hds : n.ds = [] := by rfl) : QN n (bodyPost P fn R) .ret l w := fun a ha =>
  bodyPost_ret (v := .tuple #[v, x, y]) (by have h1 := ha.at_ t v hv; have h2 := ha.at_ u x hx; have h3 := ha.at_ s y hy; simp [results, hr, Array.getD_eq_getD_getElem?, h1, h2, h3]) (ha.defers.trans hds) h
end
end Go.Eng
