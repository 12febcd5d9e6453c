/- The engine: rules by which a run of a function is read off, part C. -/
import Derived.Test.YtjcebkhhgdgohaaEngB
namespace Go.Eng
open Go Go.RowKit
@[reducible] def b8 (x : UInt8) : Value := .int .u8 (x.toNat : Int)
@[reducible] def w16 (x : UInt16) : Value := .int .u16 (x.toNat : Int)
@[reducible] def w32 (x : UInt32) : Value := .int .u32 (x.toNat : Int)
@[reducible] def w64 (x : UInt64) : Value := .int .u64 (x.toNat : Int)

theorem wrap_u (k : IntKind) (hk : k.signed = false) (n : Int) : k.wrap n = n % 2 ^ k.bits := by simp [IntKind.wrap, hk]
theorem wrap_u_nat (k : IntKind) (hk : k.signed = false) (n : Nat) : k.wrap (n : Int) = ((n % 2 ^ k.bits : Nat) : Int) := by rw [wrap_u k hk]; simp
theorem wrap8_add (x y : UInt8) : IntKind.u8.wrap ((x.toNat : Int) + y.toNat) = ((x + y).toNat : Int) := by rw [← Int.natCast_add, wrap_u_nat _ rfl, UInt8.toNat_add]; rfl
theorem wrap32_add (x y : UInt32) : IntKind.u32.wrap ((x.toNat : Int) + y.toNat) = ((x + y).toNat : Int) := by rw [← Int.natCast_add, wrap_u_nat _ rfl, UInt32.toNat_add]; rfl
theorem wrap64_add (x y : UInt64) : IntKind.u64.wrap ((x.toNat : Int) + y.toNat) = ((x + y).toNat : Int) := by rw [← Int.natCast_add, wrap_u_nat _ rfl, UInt64.toNat_add]; rfl
theorem wrap8_mul (x y : UInt8) : IntKind.u8.wrap ((x.toNat : Int) * y.toNat) = ((x * y).toNat : Int) := by rw [← Int.natCast_mul, wrap_u_nat _ rfl, UInt8.toNat_mul]; rfl
theorem wrap32_mul (x y : UInt32) : IntKind.u32.wrap ((x.toNat : Int) * y.toNat) = ((x * y).toNat : Int) := by rw [← Int.natCast_mul, wrap_u_nat _ rfl, UInt32.toNat_mul]; rfl
theorem wrap64_mul (x y : UInt64) : IntKind.u64.wrap ((x.toNat : Int) * y.toNat) = ((x * y).toNat : Int) := by rw [← Int.natCast_mul, wrap_u_nat _ rfl, UInt64.toNat_mul]; rfl
theorem sub_mod_aux (N a b : Nat) (hb : b < N) : ((a : Int) - b) % (N : Int) = (((N - b + a) % N : Nat) : Int) := by
  have e : ((a : Int) - b) = ((N - b + a : Nat) : Int) - N := by omega
  rw [e, Int.sub_emod_right]; simp
theorem wrap8_sub (x y : UInt8) : IntKind.u8.wrap ((x.toNat : Int) - y.toNat) = ((x - y).toNat : Int) := by
  rw [wrap_u _ rfl, UInt8.toNat_sub]; exact sub_mod_aux (2 ^ 8) _ _ y.toNat_lt
theorem wrap32_sub (x y : UInt32) : IntKind.u32.wrap ((x.toNat : Int) - y.toNat) = ((x - y).toNat : Int) := by
  rw [wrap_u _ rfl, UInt32.toNat_sub]; exact sub_mod_aux (2 ^ 32) _ _ y.toNat_lt
theorem wrap64_sub (x y : UInt64) : IntKind.u64.wrap ((x.toNat : Int) - y.toNat) = ((x - y).toNat : Int) := by
  rw [wrap_u _ rfl, UInt64.toNat_sub]; exact sub_mod_aux (2 ^ 64) _ _ y.toNat_lt

theorem bits_nat (k : IntKind) (hk : k.signed = false) (r : BitVec k.bits) : k.wrap (r.toNat : Int) = (r.toNat : Int) := by
  rw [wrap_u_nat k hk, Nat.mod_eq_of_lt r.isLt]

section
variable {P : Program} {l : Env} {d : Nat} {ty : TypeId} {pos : String} {af : Array Edge} {T U : TypeId} {x y : Operand}
theorem pv_add8 {a b : UInt8} (hx : ev l x = some (b8 a)) (hy : ev l y = some (b8 b)) : PV P l ⟨some d, .binOp .add T x y U, ty, pos, af, none⟩ (b8 (a + b)) := pv_bin hx hy fun w => by simp only [binOp, Op.intArith, ne_eq, not_true, if_false, wrap8_add]; rfl
theorem pv_add32 {a b : UInt32} (hx : ev l x = some (w32 a)) (hy : ev l y = some (w32 b)) : PV P l ⟨some d, .binOp .add T x y U, ty, pos, af, none⟩ (w32 (a + b)) := pv_bin hx hy fun w => by simp only [binOp, Op.intArith, ne_eq, not_true, if_false, wrap32_add]; rfl
theorem pv_add64 {a b : UInt64} (hx : ev l x = some (w64 a)) (hy : ev l y = some (w64 b)) : PV P l ⟨some d, .binOp .add T x y U, ty, pos, af, none⟩ (w64 (a + b)) := pv_bin hx hy fun w => by simp only [binOp, Op.intArith, ne_eq, not_true, if_false, wrap64_add]; rfl
theorem pv_sub8 {a b : UInt8} (hx : ev l x = some (b8 a)) (hy : ev l y = some (b8 b)) : PV P l ⟨some d, .binOp .sub T x y U, ty, pos, af, none⟩ (b8 (a - b)) := pv_bin hx hy fun w => by simp only [binOp, Op.intArith, ne_eq, not_true, if_false, wrap8_sub]; rfl
theorem pv_sub32 {a b : UInt32} (hx : ev l x = some (w32 a)) (hy : ev l y = some (w32 b)) : PV P l ⟨some d, .binOp .sub T x y U, ty, pos, af, none⟩ (w32 (a - b)) := pv_bin hx hy fun w => by simp only [binOp, Op.intArith, ne_eq, not_true, if_false, wrap32_sub]; rfl
theorem pv_sub64 {a b : UInt64} (hx : ev l x = some (w64 a)) (hy : ev l y = some (w64 b)) : PV P l ⟨some d, .binOp .sub T x y U, ty, pos, af, none⟩ (w64 (a - b)) := pv_bin hx hy fun w => by simp only [binOp, Op.intArith, ne_eq, not_true, if_false, wrap64_sub]; rfl
theorem pv_mul8 {a b : UInt8} (hx : ev l x = some (b8 a)) (hy : ev l y = some (b8 b)) : PV P l ⟨some d, .binOp .mul T x y U, ty, pos, af, none⟩ (b8 (a * b)) := pv_bin hx hy fun w => by simp only [binOp, Op.intArith, ne_eq, not_true, if_false, wrap8_mul]; rfl
theorem pv_mul32 {a b : UInt32} (hx : ev l x = some (w32 a)) (hy : ev l y = some (w32 b)) : PV P l ⟨some d, .binOp .mul T x y U, ty, pos, af, none⟩ (w32 (a * b)) := pv_bin hx hy fun w => by simp only [binOp, Op.intArith, ne_eq, not_true, if_false, wrap32_mul]; rfl
theorem pv_mul64 {a b : UInt64} (hx : ev l x = some (w64 a)) (hy : ev l y = some (w64 b)) : PV P l ⟨some d, .binOp .mul T x y U, ty, pos, af, none⟩ (w64 (a * b)) := pv_bin hx hy fun w => by simp only [binOp, Op.intArith, ne_eq, not_true, if_false, wrap64_mul]; rfl


theorem pv_bits {k : IntKind} {o : BinOp} {a b : Int} {m : Int} (hx : ev l x = some (.int k a)) (hy : ev l y = some (.int k b)) (ho : o = .and ∨ o = .or ∨ o = .xor)
    (h : k.wrap ((match o with | .and => BitVec.ofInt k.bits a &&& BitVec.ofInt k.bits b | .or => BitVec.ofInt k.bits a ||| BitVec.ofInt k.bits b | _ => BitVec.ofInt k.bits a ^^^ BitVec.ofInt k.bits b).toNat : Int) = m) :
    PV P l ⟨some d, .binOp o T x y U, ty, pos, af, none⟩ (.int k m) := pv_bin hx hy fun w => by
  subst h
  rcases ho with rfl | rfl | rfl <;> simp only [binOp, Op.intBits, ne_eq, not_true, if_false] <;> rfl
theorem bv8 (a : UInt8) : BitVec.ofInt 8 (a.toNat : Int) = a.toBitVec := by apply BitVec.eq_of_toNat_eq; simp
theorem bv32 (a : UInt32) : BitVec.ofInt 32 (a.toNat : Int) = a.toBitVec := by apply BitVec.eq_of_toNat_eq; simp
theorem bv64 (a : UInt64) : BitVec.ofInt 64 (a.toNat : Int) = a.toBitVec := by apply BitVec.eq_of_toNat_eq; simp

theorem pv_and8 {a b : UInt8} (hx : ev l x = some (b8 a)) (hy : ev l y = some (b8 b)) : PV P l ⟨some d, .binOp .and T x y U, ty, pos, af, none⟩ (b8 (a &&& b)) := pv_bits hx hy (.inl rfl) (by
  show IntKind.u8.wrap ((BitVec.ofInt 8 (a.toNat : Int) &&& BitVec.ofInt 8 (b.toNat : Int)).toNat : Int) = _; rw [bv8, bv8]; exact bits_nat .u8 rfl _)
theorem pv_or8 {a b : UInt8} (hx : ev l x = some (b8 a)) (hy : ev l y = some (b8 b)) : PV P l ⟨some d, .binOp .or T x y U, ty, pos, af, none⟩ (b8 (a ||| b)) := pv_bits hx hy (.inr (.inl rfl)) (by
  show IntKind.u8.wrap ((BitVec.ofInt 8 (a.toNat : Int) ||| BitVec.ofInt 8 (b.toNat : Int)).toNat : Int) = _; rw [bv8, bv8]; exact bits_nat .u8 rfl _)
theorem pv_xor8 {a b : UInt8} (hx : ev l x = some (b8 a)) (hy : ev l y = some (b8 b)) : PV P l ⟨some d, .binOp .xor T x y U, ty, pos, af, none⟩ (b8 (a ^^^ b)) := pv_bits hx hy (.inr (.inr rfl)) (by
  show IntKind.u8.wrap ((BitVec.ofInt 8 (a.toNat : Int) ^^^ BitVec.ofInt 8 (b.toNat : Int)).toNat : Int) = _; rw [bv8, bv8]; exact bits_nat .u8 rfl _)
theorem pv_and32 {a b : UInt32} (hx : ev l x = some (w32 a)) (hy : ev l y = some (w32 b)) : PV P l ⟨some d, .binOp .and T x y U, ty, pos, af, none⟩ (w32 (a &&& b)) := pv_bits hx hy (.inl rfl) (by
  show IntKind.u32.wrap ((BitVec.ofInt 32 (a.toNat : Int) &&& BitVec.ofInt 32 (b.toNat : Int)).toNat : Int) = _; rw [bv32, bv32]; exact bits_nat .u32 rfl _)
theorem pv_or32 {a b : UInt32} (hx : ev l x = some (w32 a)) (hy : ev l y = some (w32 b)) : PV P l ⟨some d, .binOp .or T x y U, ty, pos, af, none⟩ (w32 (a ||| b)) := pv_bits hx hy (.inr (.inl rfl)) (by
  show IntKind.u32.wrap ((BitVec.ofInt 32 (a.toNat : Int) ||| BitVec.ofInt 32 (b.toNat : Int)).toNat : Int) = _; rw [bv32, bv32]; exact bits_nat .u32 rfl _)
theorem pv_xor32 {a b : UInt32} (hx : ev l x = some (w32 a)) (hy : ev l y = some (w32 b)) : PV P l ⟨some d, .binOp .xor T x y U, ty, pos, af, none⟩ (w32 (a ^^^ b)) := pv_bits hx hy (.inr (.inr rfl)) (by
  show IntKind.u32.wrap ((BitVec.ofInt 32 (a.toNat : Int) ^^^ BitVec.ofInt 32 (b.toNat : Int)).toNat : Int) = _; rw [bv32, bv32]; exact bits_nat .u32 rfl _)
theorem pv_and64 {a b : UInt64} (hx : ev l x = some (w64 a)) (hy : ev l y = some (w64 b)) : PV P l ⟨some d, .binOp .and T x y U, ty, pos, af, none⟩ (w64 (a &&& b)) := pv_bits hx hy (.inl rfl) (by
  show IntKind.u64.wrap ((BitVec.ofInt 64 (a.toNat : Int) &&& BitVec.ofInt 64 (b.toNat : Int)).toNat : Int) = _; rw [bv64, bv64]; exact bits_nat .u64 rfl _)
theorem pv_or64 {a b : UInt64} (hx : ev l x = some (w64 a)) (hy : ev l y = some (w64 b)) : PV P l ⟨some d, .binOp .or T x y U, ty, pos, af, none⟩ (w64 (a ||| b)) := pv_bits hx hy (.inr (.inl rfl)) (by
  show IntKind.u64.wrap ((BitVec.ofInt 64 (a.toNat : Int) ||| BitVec.ofInt 64 (b.toNat : Int)).toNat : Int) = _; rw [bv64, bv64]; exact bits_nat .u64 rfl _)
theorem pv_xor64 {a b : UInt64} (hx : ev l x = some (w64 a)) (hy : ev l y = some (w64 b)) : PV P l ⟨some d, .binOp .xor T x y U, ty, pos, af, none⟩ (w64 (a ^^^ b)) := pv_bits hx hy (.inr (.inr rfl)) (by
  show IntKind.u64.wrap ((BitVec.ofInt 64 (a.toNat : Int) ^^^ BitVec.ofInt 64 (b.toNat : Int)).toNat : Int) = _; rw [bv64, bv64]; exact bits_nat .u64 rfl _)

-- shifts by a known count
theorem pv_shl {k yk : IntKind} {a m : Int} {c : Nat} (hx : ev l x = some (.int k a)) (hy : ev l y = some (.int yk (c : Int))) (h : k.wrap (a * 2 ^ (min c k.bits)) = m) :
    PV P l ⟨some d, .binOp .shl T x y U, ty, pos, af, none⟩ (.int k m) := ⟨rfl, fun ρ hρ w => by
  subst h
  have hc : ¬ ((c : Int) < 0) := by omega
  simp [execOp, hρ _ _ hx, hρ _ _ hy, eqGuard, binOp, Op.shift, hc]⟩
theorem pv_shr {k yk : IntKind} {a m : Int} {c : Nat} (hx : ev l x = some (.int k a)) (hy : ev l y = some (.int yk (c : Int))) (h : a.fdiv (2 ^ (min c k.bits)) = m) :
    PV P l ⟨some d, .binOp .shr T x y U, ty, pos, af, none⟩ (.int k m) := ⟨rfl, fun ρ hρ w => by
  subst h
  have hc : ¬ ((c : Int) < 0) := by omega
  simp [execOp, hρ _ _ hx, hρ _ _ hy, eqGuard, binOp, Op.shift, hc]⟩
theorem fdiv_pow (a n : Nat) : Int.fdiv (a : Int) (2 ^ n) = ((a >>> n : Nat) : Int) := by
  rw [Int.fdiv_eq_ediv_of_nonneg _ (by exact Int.le_of_lt (Int.pow_pos (by decide))), Nat.shiftRight_eq_div_pow]; simp
theorem mul_pow (k : IntKind) (hk : k.signed = false) (a n : Nat) : k.wrap ((a : Int) * 2 ^ n) = ((a <<< n % 2 ^ k.bits : Nat) : Int) := by
  have : ((a : Int) * 2 ^ n) = ((a <<< n : Nat) : Int) := by rw [Nat.shiftLeft_eq]; simp
  rw [this, wrap_u_nat k hk]
theorem pv_shr32 {yk : IntKind} {a : UInt32} {c : Nat} (hx : ev l x = some (w32 a)) (hy : ev l y = some (.int yk (c : Int))) (hc : c < 32) : PV P l ⟨some d, .binOp .shr T x y U, ty, pos, af, none⟩ (w32 (a >>> UInt32.ofNat c)) :=
  pv_shr hx hy (by
    rw [show min c IntKind.u32.bits = c from Nat.min_eq_left (Nat.le_of_lt hc), fdiv_pow, UInt32.toNat_shiftRight, UInt32.toNat_ofNat', Nat.mod_eq_of_lt (show c < 2 ^ 32 by omega), Nat.mod_eq_of_lt hc])
theorem pv_shl32 {yk : IntKind} {a : UInt32} {c : Nat} (hx : ev l x = some (w32 a)) (hy : ev l y = some (.int yk (c : Int))) (hc : c < 32) : PV P l ⟨some d, .binOp .shl T x y U, ty, pos, af, none⟩ (w32 (a <<< UInt32.ofNat c)) :=
  pv_shl hx hy (by
    rw [show min c IntKind.u32.bits = c from Nat.min_eq_left (Nat.le_of_lt hc), mul_pow _ rfl, UInt32.toNat_shiftLeft, UInt32.toNat_ofNat', Nat.mod_eq_of_lt (show c < 2 ^ 32 by omega), Nat.mod_eq_of_lt hc]; rfl)
theorem pv_shr64 {yk : IntKind} {a : UInt64} {c : Nat} (hx : ev l x = some (w64 a)) (hy : ev l y = some (.int yk (c : Int))) (hc : c < 64) : PV P l ⟨some d, .binOp .shr T x y U, ty, pos, af, none⟩ (w64 (a >>> UInt64.ofNat c)) :=
  pv_shr hx hy (by
    rw [show min c IntKind.u64.bits = c from Nat.min_eq_left (Nat.le_of_lt hc), fdiv_pow, UInt64.toNat_shiftRight, UInt64.toNat_ofNat', Nat.mod_eq_of_lt (show c < 2 ^ 64 by omega), Nat.mod_eq_of_lt hc])
theorem pv_shl64 {yk : IntKind} {a : UInt64} {c : Nat} (hx : ev l x = some (w64 a)) (hy : ev l y = some (.int yk (c : Int))) (hc : c < 64) : PV P l ⟨some d, .binOp .shl T x y U, ty, pos, af, none⟩ (w64 (a <<< UInt64.ofNat c)) :=
  pv_shl hx hy (by
    rw [show min c IntKind.u64.bits = c from Nat.min_eq_left (Nat.le_of_lt hc), mul_pow _ rfl, UInt64.toNat_shiftLeft, UInt64.toNat_ofNat', Nat.mod_eq_of_lt (show c < 2 ^ 64 by omega), Nat.mod_eq_of_lt hc]; rfl)
theorem pv_shr8 {yk : IntKind} {a : UInt8} {c : Nat} (hx : ev l x = some (b8 a)) (hy : ev l y = some (.int yk (c : Int))) (hc : c < 8) : PV P l ⟨some d, .binOp .shr T x y U, ty, pos, af, none⟩ (b8 (a >>> UInt8.ofNat c)) :=
  pv_shr hx hy (by
    rw [show min c IntKind.u8.bits = c from Nat.min_eq_left (Nat.le_of_lt hc), fdiv_pow, UInt8.toNat_shiftRight, UInt8.toNat_ofNat', Nat.mod_eq_of_lt (show c < 2 ^ 8 by omega), Nat.mod_eq_of_lt hc])
theorem pv_shl8 {yk : IntKind} {a : UInt8} {c : Nat} (hx : ev l x = some (b8 a)) (hy : ev l y = some (.int yk (c : Int))) (hc : c < 8) : PV P l ⟨some d, .binOp .shl T x y U, ty, pos, af, none⟩ (b8 (a <<< UInt8.ofNat c)) :=
  pv_shl hx hy (by
    rw [show min c IntKind.u8.bits = c from Nat.min_eq_left (Nat.le_of_lt hc), mul_pow _ rfl, UInt8.toNat_shiftLeft, UInt8.toNat_ofNat', Nat.mod_eq_of_lt (show c < 2 ^ 8 by omega), Nat.mod_eq_of_lt hc]; rfl)


def shr32 (a : UInt32) (c : Nat) : UInt32 := if c < 32 then a >>> UInt32.ofNat c else 0
def shr64 (a : UInt64) (c : Nat) : UInt64 := if c < 64 then a >>> UInt64.ofNat c else 0
def shl64 (a : UInt64) (c : Nat) : UInt64 := if c < 64 then a <<< UInt64.ofNat c else 0
theorem pv_shr32g {yk : IntKind} {a : UInt32} {c : Nat} (hx : ev l x = some (w32 a)) (hy : ev l y = some (.int yk (c : Int))) : PV P l ⟨some d, .binOp .shr T x y U, ty, pos, af, none⟩ (w32 (shr32 a c)) := by
  unfold shr32
  by_cases h : c < 32
  · rw [if_pos h]; exact pv_shr32 hx hy h
  · rw [if_neg h]
    refine pv_shr hx hy ?_
    rw [show min c IntKind.u32.bits = 32 from Nat.min_eq_right (show 32 ≤ c by omega), fdiv_pow, Nat.shiftRight_eq_div_pow, Nat.div_eq_of_lt a.toNat_lt]; rfl
theorem pv_shr64g {yk : IntKind} {a : UInt64} {c : Nat} (hx : ev l x = some (w64 a)) (hy : ev l y = some (.int yk (c : Int))) : PV P l ⟨some d, .binOp .shr T x y U, ty, pos, af, none⟩ (w64 (shr64 a c)) := by
  unfold shr64
  by_cases h : c < 64
  · rw [if_pos h]; exact pv_shr64 hx hy h
  · rw [if_neg h]
    refine pv_shr hx hy ?_
    rw [show min c IntKind.u64.bits = 64 from Nat.min_eq_right (show 64 ≤ c by omega), fdiv_pow, Nat.shiftRight_eq_div_pow, Nat.div_eq_of_lt a.toNat_lt]; rfl
theorem pv_shl64g {yk : IntKind} {a : UInt64} {c : Nat} (hx : ev l x = some (w64 a)) (hy : ev l y = some (.int yk (c : Int))) : PV P l ⟨some d, .binOp .shl T x y U, ty, pos, af, none⟩ (w64 (shl64 a c)) := by
  unfold shl64
  by_cases h : c < 64
  · rw [if_pos h]; exact pv_shl64 hx hy h
  · rw [if_neg h]
    refine pv_shl hx hy ?_
    rw [show min c IntKind.u64.bits = 64 from Nat.min_eq_right (show 64 ≤ c by omega), mul_pow _ rfl, Nat.shiftLeft_eq, show IntKind.u64.bits = 64 from rfl, Nat.mul_mod_left]; rfl

-- conversions between whole numbers
theorem pv_conv {k k2 : IntKind} {n m : Int} {S D : TypeId} (hs : (P.underlying S).isSome = true) (hd : P.underlying D = some (.int k2)) (hx : ev l x = some (.int k n)) (hm : k2.wrap n = m) :
    PV P l ⟨some d, .convert S D x, ty, pos, af, none⟩ (.int k2 m) := ⟨rfl, fun ρ hρ w => by
  obtain ⟨u, hu⟩ := Option.isSome_iff_exists.1 hs
  subst hm
  simp [execOp, hρ _ _ hx, convert, run_underlying hu, run_underlying hd, Conv.intToInt]⟩
theorem cv_8_32 (a : UInt8) : IntKind.u32.wrap (a.toNat : Int) = (a.toUInt32.toNat : Int) := by rw [wrap_u_nat _ rfl]; simp; have := a.toNat_lt; simp only [IntKind.bits]; omega
theorem cv_8_64 (a : UInt8) : IntKind.u64.wrap (a.toNat : Int) = (a.toUInt64.toNat : Int) := by rw [wrap_u_nat _ rfl]; simp; have := a.toNat_lt; simp only [IntKind.bits]; omega
theorem cv_32_64 (a : UInt32) : IntKind.u64.wrap (a.toNat : Int) = (a.toUInt64.toNat : Int) := by rw [wrap_u_nat _ rfl]; simp; have := a.toNat_lt; simp only [IntKind.bits]; omega
theorem cv_8_i (a : UInt8) : IntKind.i64.wrap (a.toNat : Int) = (a.toNat : Int) := by have := a.toNat_lt; exact wrap_i64 (by omega) (by omega)
theorem cv_16_i (a : UInt16) : IntKind.i64.wrap (a.toNat : Int) = (a.toNat : Int) := by have := a.toNat_lt; exact wrap_i64 (by omega) (by omega)
theorem cv_32_i (a : UInt32) : IntKind.i64.wrap (a.toNat : Int) = (a.toNat : Int) := by have := a.toNat_lt; exact wrap_i64 (by omega) (by omega)
theorem cv_64_i (a : UInt64) (h : a.toNat ≤ 9223372036854775807) : IntKind.i64.wrap (a.toNat : Int) = (a.toNat : Int) := wrap_i64 (by omega) (by omega)
theorem cv_64_8 (a : UInt64) : IntKind.u8.wrap (a.toNat : Int) = (a.toUInt8.toNat : Int) := by rw [wrap_u_nat _ rfl]; simp [IntKind.bits]
theorem cv_32_8 (a : UInt32) : IntKind.u8.wrap (a.toNat : Int) = (a.toUInt8.toNat : Int) := by rw [wrap_u_nat _ rfl]; simp [IntKind.bits]
theorem cv_64_32 (a : UInt64) : IntKind.u32.wrap (a.toNat : Int) = (a.toUInt32.toNat : Int) := by rw [wrap_u_nat _ rfl]; simp [IntKind.bits]
theorem cv_i_64 (a : Nat) : IntKind.u64.wrap (a : Int) = ((UInt64.ofNat a).toNat : Int) := by rw [wrap_u_nat _ rfl, UInt64.toNat_ofNat']; rfl
theorem cv_i_32 (a : Nat) : IntKind.u32.wrap (a : Int) = ((UInt32.ofNat a).toNat : Int) := by rw [wrap_u_nat _ rfl, UInt32.toNat_ofNat']; rfl
theorem cv_i_8 (a : Nat) : IntKind.u8.wrap (a : Int) = ((UInt8.ofNat a).toNat : Int) := by rw [wrap_u_nat _ rfl, UInt8.toNat_ofNat']; rfl
theorem cv_i_i (n : Int) (h : -9223372036854775808 ≤ n ∧ n ≤ 9223372036854775807) : IntKind.i64.wrap n = n := wrap_i64 h.1 h.2
theorem cv_64_64 (a : UInt64) : IntKind.u64.wrap (a.toNat : Int) = (a.toNat : Int) := by rw [wrap_u_nat _ rfl, Nat.mod_eq_of_lt (show a.toNat < 2 ^ IntKind.u64.bits from a.toNat_lt)]
end
end Go.Eng
