/- The engine: rules by which a run of a function is read off, part F. -/
import Derived.Test.YtjcebkhhgdgohaaEngE
namespace Go.Eng
open Go Go.RowKit
section
variable {P : Program} {n : Md} {ops : Array Oper} {Q : QT} {rest : List Oper} {l : Env} {w w0 : World} {M : Nat → Prop} {hp : List Ent} {d : Nat} {ty : TypeId} {pos : String} {af : Array Edge} {v : Value} {T U : TypeId} {x y z : Operand}

-- addresses, parts
theorem pv_fieldAddr {S f b o off : Nat} (hT : fldT P S f = some off) (hx : ev l x = some (.pointer (some ⟨b, o, none⟩))) : PV P l ⟨some d, .fieldAddr S x f, ty, pos, af, none⟩ (.pointer (some ⟨b, o + off, none⟩)) := ⟨rfl, fun ρ hρ w => by
  unfold fldT at hT
  cases hu : P.underlying S with
  | none => simp [hu] at hT
  | some u =>
    rw [hu] at hT
    cases u <;> try (simp at hT; done)
    rename_i fs
    obtain ⟨fl, hf, hT⟩ := Option.bind_eq_some_iff.1 hT
    obtain ⟨i, hi, hT⟩ := Option.bind_eq_some_iff.1 hT
    obtain ⟨hs, ho⟩ : i.size ≠ 0 ∧ fl.offset = off := by
      by_cases h0 : i.size = 0
      · simp [h0] at hT
      · simp only [h0, if_false] at hT; injection hT with hT; exact ⟨h0, hT⟩
    simp [execOp, hρ _ _ hx, Instr.fieldAt, run_underlying hu, hf, Instr.sureAddr, fieldPlace, sizeOf, typeInfo, hi, hs, add0, ho]⟩
theorem pv_fieldAddr0 {S f b o : Nat} (hT : fldT P S f = some 0) (hx : ev l x = some (.pointer (some ⟨b, o, none⟩))) : PV P l ⟨some d, .fieldAddr S x f, ty, pos, af, none⟩ (.pointer (some ⟨b, o, none⟩)) := pv_fieldAddr hT hx
/-- The address of an element: of an array by its address. -/
theorem pv_indexAddrA {k : IntKind} {b o j len sz : Nat} {i : Int} (hT : arrT P T = some (len, sz)) (hx : ev l x = some (.pointer (some ⟨b, o, none⟩))) (hy : ev l y = some (.int k i)) (hi : i = (j : Int)) (hj : j < len) :
    PV P l ⟨some d, .indexAddr T x y, ty, pos, af, none⟩ (.pointer (some ⟨b, o + j * sz, none⟩)) := ⟨rfl, fun ρ hρ w => by
  subst hi
  unfold arrT at hT
  cases hu : P.underlying T with
  | none => simp [hu] at hT
  | some u =>
    cases u <;> simp [hu] at hT
    obtain ⟨q, hq, rfl, rfl⟩ := hT
    have h0 : (0 : Int) ≤ j ∧ (j : Int) < (_ : Nat) := ⟨by omega, by exact_mod_cast hj⟩
    simp [execOp, hρ _ _ hx, hρ _ _ hy, Instr.indexAt, asIntOf, run_underlying hu, Instr.sureAddr, hj, sizeOf, typeInfo, hq, add0]⟩
theorem pv_indexAddrS {k : IntKind} {b o j len cap e sz by_ : Nat} {i : Int} (hT : slT P T = some (e, sz, by_)) (hx : ev l x = some (.slice (some ⟨b, o, none⟩) len cap)) (hy : ev l y = some (.int k i)) (hi : i = (j : Int)) (hj : j < len) :
    PV P l ⟨some d, .indexAddr T x y, ty, pos, af, none⟩ (.pointer (some ⟨b, o + j * sz, none⟩)) := ⟨rfl, fun ρ hρ w => by
  subst hi
  unfold slT at hT
  cases hu : P.underlying T with
  | none => simp [hu] at hT
  | some u =>
    cases u <;> simp [hu] at hT
    obtain ⟨q, hq, rfl, rfl, rfl⟩ := hT
    simp [execOp, hρ _ _ hx, hρ _ _ hy, Instr.indexAt, asIntOf, run_underlying hu, hj, sizeOf, typeInfo, hq, add0]⟩
/-- An element of an array's value; a byte of a string. -/
theorem pv_index {k : IntKind} {len j : Nat} {cs : List Value} {i : Int} (hT : arrT P T = some (len, 1)) (hE : ∀ e, P.underlying T = some (.array len e) → oneT P e = true) (hx : ev l x = some (.agg cs.toArray)) (hy : ev l y = some (.int k i)) (hi : i = (j : Int)) (hj : j < len) (hv : cs[j]? = some v) :
    PV P l ⟨some d, .index T x y, ty, pos, af, none⟩ v := ⟨rfl, fun ρ hρ w => by
  subst hi
  unfold arrT at hT
  cases hu : P.underlying T with
  | none => simp [hu] at hT
  | some u =>
    cases u <;> simp [hu] at hT
    rename_i e
    obtain ⟨q, hq, rfl, hs⟩ := hT
    have hE' := hE e hu
    unfold oneT at hE'
    have hag : ∀ w, (isAgg e).run P w = .ok false w := by
      intro w
      cases hue : P.underlying e with
      | none => simp [hue] at hE'
      | some u => cases u <;> simp_all [isAgg, run_underlying hue]
    simp [execOp, hρ _ _ hx, hρ _ _ hy, Instr.index, asIntOf, run_underlying hu, hj, sizeOf, typeInfo, hq, hs, part, hag, hv]⟩
theorem pv_indexStr {k : IntKind} {s : ByteArray} {j : Nat} {i : Int} (hT : P.underlying T = some .string) (hx : ev l x = some (.string s)) (hy : ev l y = some (.int k i)) (hi : i = (j : Int)) (hj : j < s.size) :
    PV P l ⟨some d, .index T x y, ty, pos, af, none⟩ (.int .u8 (s[j].toNat : Int)) := ⟨rfl, fun ρ hρ w => by
  subst hi
  simp [execOp, hρ _ _ hx, hρ _ _ hy, Instr.index, asIntOf, run_underlying hT, hj]⟩
/-- A field of a struct's value. -/
theorem pv_field1 {f off : Nat} {cs : List Value} (hT : fvT P T f = some (off, 1, false)) (hx : ev l x = some (.agg cs.toArray)) (hv : cs[off]? = some v) : PV P l ⟨some d, .field T x f, ty, pos, af, none⟩ v := ⟨rfl, fun ρ hρ w => by
  unfold fvT at hT
  cases hu : P.underlying T with
  | none => simp [hu] at hT
  | some u =>
    rw [hu] at hT
    cases u <;> try (simp at hT; done)
    rename_i fs
    obtain ⟨fl, hf, hT⟩ := Option.bind_eq_some_iff.1 hT
    obtain ⟨i, hi, hT⟩ := Option.bind_eq_some_iff.1 hT
    cases huf : P.underlying fl.type with
    | none => simp [huf] at hT
    | some uf =>
      have hag : ∀ w, (isAgg fl.type).run P w = .ok false w := by
        intro w
        cases uf <;> simp_all [isAgg, run_underlying huf]
      have ho : fl.offset = off := by cases uf <;> simp_all
      simp [execOp, hρ _ _ hx, Instr.field, asAgg, run_underlying hu, hf, part, hag, ho, hv]⟩
theorem pv_fieldA {f off m : Nat} {cs : List Value} (hT : fvT P T f = some (off, m, true)) (hx : ev l x = some (.agg cs.toArray)) : PV P l ⟨some d, .field T x f, ty, pos, af, none⟩ (.agg ((cs.drop off).take m).toArray) := ⟨rfl, fun ρ hρ w => by
  unfold fvT at hT
  cases hu : P.underlying T with
  | none => simp [hu] at hT
  | some u =>
    rw [hu] at hT
    cases u <;> try (simp at hT; done)
    rename_i fs
    obtain ⟨fl, hf, hT⟩ := Option.bind_eq_some_iff.1 hT
    obtain ⟨i, hi, hT⟩ := Option.bind_eq_some_iff.1 hT
    cases huf : P.underlying fl.type with
    | none => simp [huf] at hT
    | some uf =>
      have hag : ∀ w, (isAgg fl.type).run P w = .ok true w := by
        intro w
        cases uf <;> simp_all [isAgg, run_underlying huf]
      have ho : fl.offset = off ∧ i.size = m := by cases uf <;> simp_all
      obtain ⟨ho, hm⟩ := ho
      have he : (cs.toArray.extract off (off + m)) = ((cs.drop off).take m).toArray := by
        apply Array.ext'; simp
      simp [execOp, hρ _ _ hx, Instr.field, asAgg, run_underlying hu, hf, part, hag, ho, sizeOf, typeInfo, hi, hm]⟩

-- lengths
theorem pv_len {A : Option Addr} {m c : Nat} (hT : (slT P T).isSome = true) (hx : ev l x = some (.slice A m c)) :
    PV P l ⟨some d, .call { callee := .builtin .len, args := #[x], argTypes := #[T] }, ty, pos, af, none⟩ (.int .i64 (m : Int)) := ⟨rfl, fun ρ hρ w => by
  unfold slT at hT
  cases hu : P.underlying T with
  | none => simp [hu] at hT
  | some u =>
    cases u <;> simp [hu] at hT
    simp [execOp, hρ _ _ hx, resolve, invoke, builtin, Builtin.len_, run_underlying hu, goInt]⟩
theorem pv_lenStr {s : ByteArray} (hT : P.underlying T = some .string) (hx : ev l x = some (.string s)) :
    PV P l ⟨some d, .call { callee := .builtin .len, args := #[x], argTypes := #[T] }, ty, pos, af, none⟩ (.int .i64 (s.size : Int)) := ⟨rfl, fun ρ hρ w => by
  simp [execOp, hρ _ _ hx, resolve, invoke, builtin, Builtin.len_, run_underlying hT, goInt]⟩
theorem pv_lenPA {len sz : Nat} {E : TypeId} (hT : P.underlying T = some (.pointer E)) (hE : arrT P E = some (len, sz)) (hx : ev l x = some v) :
    PV P l ⟨some d, .call { callee := .builtin .len, args := #[x], argTypes := #[T] }, ty, pos, af, none⟩ (.int .i64 (len : Int)) := ⟨rfl, fun ρ hρ w => by
  unfold arrT at hE
  cases hu : P.underlying E with
  | none => simp [hu] at hE
  | some u =>
    cases u <;> simp [hu] at hE
    obtain ⟨q, hq, rfl, _⟩ := hE
    simp [execOp, hρ _ _ hx, resolve, invoke, builtin, Builtin.len_, run_underlying hT, run_underlying hu, goInt]⟩
theorem pv_lenA {len sz : Nat} (hE : arrT P T = some (len, sz)) (hx : ev l x = some v) :
    PV P l ⟨some d, .call { callee := .builtin .len, args := #[x], argTypes := #[T] }, ty, pos, af, none⟩ (.int .i64 (len : Int)) := ⟨rfl, fun ρ hρ w => by
  unfold arrT at hE
  cases hu : P.underlying T with
  | none => simp [hu] at hE
  | some u =>
    cases u <;> simp [hu] at hE
    obtain ⟨q, hq, rfl, _⟩ := hE
    simp [execOp, hρ _ _ hx, resolve, invoke, builtin, Builtin.len_, run_underlying hu, goInt]⟩
theorem pv_max {k : IntKind} {a b : Int} {ts : Array TypeId} (hx : ev l x = some (.int k a)) (hy : ev l y = some (.int k b)) :
    PV P l ⟨some d, .call { callee := .builtin .max, args := #[x, y], argTypes := ts }, ty, pos, af, none⟩ (.int k (if a < b then b else a)) := ⟨rfl, fun ρ hρ w => by
  simp [execOp, hρ _ _ hx, hρ _ _ hy, resolve, invoke, builtin, Builtin.max_, Builtin.max2]⟩
theorem pv_min {k : IntKind} {a b : Int} {ts : Array TypeId} (hx : ev l x = some (.int k a)) (hy : ev l y = some (.int k b)) :
    PV P l ⟨some d, .call { callee := .builtin .min, args := #[x, y], argTypes := ts }, ty, pos, af, none⟩ (.int k (if b < a then b else a)) := ⟨rfl, fun ρ hρ w => by
  simp [execOp, hρ _ _ hx, hρ _ _ hy, resolve, invoke, builtin, Builtin.min_, Builtin.min2]⟩

-- cuts of slices, arrays, strings
def optv (l : Env) : Option Operand → Option (Option Value)
  | none => some none
  | some x => (ev l x).map some
/-- The bounds of a cut, as numbers. -/
def bnd (dflt : Nat) : Option Value → Option Int
  | none => some dflt
  | some (.int _ i) => some i
  | _ => none
theorem pv_sliceS {lo hi mx : Option Operand} {vl vh vm : Option Value} {A : Option Addr} {len cap e sz by_ a b c : Nat} (hT : slT P T = some (e, sz, by_)) (hx : ev l x = some (.slice A len cap))
    (hl : optv l lo = some vl) (hh : optv l hi = some vh) (hm : optv l mx = some vm) (nl : bnd 0 vl = some (a : Int)) (nh : bnd len vh = some (b : Int)) (nm : bnd cap vm = some (c : Int)) (hmh : mx.isSome = true → hi.isSome = true)
    (hab : a ≤ b) (hbc : b ≤ c) (hcc : c ≤ cap) :
    PV P l ⟨some d, .slice T x lo hi mx, ty, pos, af, none⟩ (.slice (if c = a then A else A.map (·.add (a * sz))) (b - a) (c - a)) := ⟨rfl, fun ρ hρ w => by
  unfold slT at hT
  cases hu : P.underlying T with
  | none => simp [hu] at hT
  | some u =>
    cases u <;> simp [hu] at hT
    obtain ⟨q, hq, rfl, rfl, rfl⟩ := hT
    have el : lo.map ρ = vl := by
      cases lo with
      | none => simpa [optv] using hl
      | some o => simp only [optv, Option.map_eq_some_iff] at hl; obtain ⟨u, h1, rfl⟩ := hl; simp [hρ _ _ h1]
    have eh : hi.map ρ = vh := by
      cases hi with
      | none => simpa [optv] using hh
      | some o => simp only [optv, Option.map_eq_some_iff] at hh; obtain ⟨u, h1, rfl⟩ := hh; simp [hρ _ _ h1]
    have em : mx.map ρ = vm := by
      cases mx with
      | none => simpa [optv] using hm
      | some o => simp only [optv, Option.map_eq_some_iff] at hm; obtain ⟨u, h1, rfl⟩ := hm; simp [hρ _ _ h1]
    have hmh' : vm.isSome = true → vh.isSome = true := by rw [← em, ← eh]; simpa using hmh
    have sb : (Instr.sliceBounds true len cap vl vh vm).run P w = .ok (a, b, c) w := by
      have key : ∀ (v : Value) (i : Int) (dflt bd : Nat) (cd : BoundsCode) (r : Nat), bnd dflt (some v) = some i → i = (r : Int) → r ≤ bd → (Instr.sliceBound v bd cd).run P w = .ok r w := by
        intro v i dflt bd cd r h1 h2 h3
        cases v <;> simp [bnd] at h1
        subst h1; subst h2
        simp [Instr.sliceBound, asIntOf, h3]
      cases vm with
      | none =>
        have : c = cap := by simp [bnd] at nm; omega
        subst this
        cases vh with
        | none =>
          have : b = len := by simp [bnd] at nh; omega
          subst this
          cases vl with
          | none => have : a = 0 := by simp [bnd] at nl; omega
                    subst this; simp [Instr.sliceBounds]
          | some v => simp [Instr.sliceBounds, key v _ 0 b .sliceB a nl rfl hab]
        | some vh =>
          cases vl with
          | none => have : a = 0 := by simp [bnd] at nl; omega
                    subst this; simp [Instr.sliceBounds, key vh _ len c .sliceAcap b nh rfl hbc]
          | some v => simp [Instr.sliceBounds, key vh _ len c .sliceAcap b nh rfl hbc, key v _ 0 b .sliceB a nl rfl hab]
      | some vm =>
        cases vh with
        | none => simp at hmh'
        | some vh =>
          cases vl with
          | none => have : a = 0 := by simp [bnd] at nl; omega
                    subst this; simp [Instr.sliceBounds, key vm _ cap cap .slice3Acap c nm rfl hcc, key vh _ len c .slice3B b nh rfl hbc]
          | some v => simp [Instr.sliceBounds, key vm _ cap cap .slice3Acap c nm rfl hcc, key vh _ len c .slice3B b nh rfl hbc, key v _ 0 b .slice3C a nl rfl hab]
    simp [execOp, hρ _ _ hx, Instr.sliceAt, Instr.slice, run_underlying hu, el, eh, em, sb, sizeOf, typeInfo, hq]⟩
/-- An array, cut by its address. -/
theorem pv_sliceA {lo hi : Option Operand} {vl vh : Option Value} {g o len sz a b : Nat} (hT : arrT P T = some (len, sz)) (hx : ev l x = some (.pointer (some ⟨g, o, none⟩)))
    (hl : optv l lo = some vl) (hh : optv l hi = some vh) (nl : bnd 0 vl = some (a : Int)) (nh : bnd len vh = some (b : Int)) (hab : a ≤ b) (hbc : b ≤ len) :
    PV P l ⟨some d, .slice T x lo hi none, ty, pos, af, none⟩ (.slice (some (if len = a then ⟨g, o, none⟩ else ⟨g, o + a * sz, none⟩)) (b - a) (len - a)) := ⟨rfl, fun ρ hρ w => by
  unfold arrT at hT
  cases hu : P.underlying T with
  | none => simp [hu] at hT
  | some u =>
    cases u <;> simp [hu] at hT
    obtain ⟨q, hq, rfl, rfl⟩ := hT
    rename_i len _
    have el : lo.map ρ = vl := by
      cases lo with
      | none => simpa [optv] using hl
      | some o => simp only [optv, Option.map_eq_some_iff] at hl; obtain ⟨u, h1, rfl⟩ := hl; simp [hρ _ _ h1]
    have eh : hi.map ρ = vh := by
      cases hi with
      | none => simpa [optv] using hh
      | some o => simp only [optv, Option.map_eq_some_iff] at hh; obtain ⟨u, h1, rfl⟩ := hh; simp [hρ _ _ h1]
    have sb : (Instr.sliceBounds false len len vl vh none).run P w = .ok (a, b, len) w := by
      have key : ∀ (v : Value) (i : Int) (dflt bd : Nat) (cd : BoundsCode) (r : Nat), bnd dflt (some v) = some i → i = (r : Int) → r ≤ bd → (Instr.sliceBound v bd cd).run P w = .ok r w := by
        intro v i dflt bd cd r h1 h2 h3
        cases v <;> simp [bnd] at h1
        subst h1; subst h2
        simp [Instr.sliceBound, asIntOf, h3]
      cases vh with
      | none =>
        have : b = len := by simp [bnd] at nh; omega
        subst this
        cases vl with
        | none => have : a = 0 := by simp [bnd] at nl; omega
                  subst this; simp [Instr.sliceBounds]
        | some v => simp [Instr.sliceBounds, key v _ 0 b .sliceB a nl rfl hab]
      | some vh =>
        cases vl with
        | none => have : a = 0 := by simp [bnd] at nl; omega
                  subst this; simp [Instr.sliceBounds, key vh _ len len .sliceAlen b nh rfl hbc]
        | some v => simp [Instr.sliceBounds, key vh _ len len .sliceAlen b nh rfl hbc, key v _ 0 b .sliceB a nl rfl hab]
    simp [execOp, hρ _ _ hx, Instr.sliceAt, Instr.sureAddr, run_underlying hu, el, eh, sb, sizeOf, typeInfo, hq, add0]⟩
end
end Go.Eng
