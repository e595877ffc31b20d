/- Laws on single operations for walks over this seat's program. It proves no statement by itself. -/
import Derived.Test.YtdhfiamgmokfbaaMem
import Derived.Laws.Small
import Derived.Laws.Slices
import Derived.Laws.Build
import Derived.IntWalk
import Derived.WideLaws
set_option linter.unusedSimpArgs false
set_option linter.unusedVariables false
namespace Go.Proofs.Ytdhfiamgmokfbaa.E
open Go Go.RowKit

/-! ### Numbers of 32 bits and 8, as natural numbers -/
def add32 (a b : Nat) : Nat := (a + b) % 4294967296
def and32 (a b : Nat) : Nat := (a &&& b) % 4294967296
def or32 (a b : Nat) : Nat := (a ||| b) % 4294967296
def xor32 (a b : Nat) : Nat := (a ^^^ b) % 4294967296
def not32 (a : Nat) : Nat := 4294967295 - a % 4294967296
def shl32 (a n : Nat) : Nat := (a <<< n) % 4294967296
def shr32 (a n : Nat) : Nat := a >>> n

theorem ofInt_nat (k a : Nat) : (BitVec.ofInt k (a : Int)).toNat = a % 2 ^ k := by
  rw [BitVec.ofInt_natCast, BitVec.toNat_ofNat]
theorem wrap32_nat (n : Nat) : IntKind.u32.wrap (n : Int) = ((n % 4294967296 : Nat) : Int) := by
  rw [IntKind.wrap_u32]; omega
theorem wrap8_nat (n : Nat) : IntKind.u8.wrap (n : Int) = ((n % 256 : Nat) : Int) := by
  rw [IntKind.wrap_u8]; omega
theorem bits_and32 (a b : Nat) : bits .and .u32 (a : Int) (b : Int) = (and32 a b : Int) := by
  show IntKind.u32.wrap ((BitVec.ofInt 32 (a : Int) &&& BitVec.ofInt 32 (b : Int)).toNat : Int) = _
  rw [BitVec.toNat_and, ofInt_nat, ofInt_nat, wrap32_nat, and32]
  congr 1
  rw [← Nat.and_mod_two_pow (n := 32)]
  simp
theorem bits_or32 (a b : Nat) : bits .or .u32 (a : Int) (b : Int) = (or32 a b : Int) := by
  show IntKind.u32.wrap ((BitVec.ofInt 32 (a : Int) ||| BitVec.ofInt 32 (b : Int)).toNat : Int) = _
  rw [BitVec.toNat_or, ofInt_nat, ofInt_nat, wrap32_nat, or32]
  congr 1
  rw [← Nat.or_mod_two_pow (n := 32)]
  simp
theorem bits_xor32 (a b : Nat) : bits .xor .u32 (a : Int) (b : Int) = (xor32 a b : Int) := by
  show IntKind.u32.wrap ((BitVec.ofInt 32 (a : Int) ^^^ BitVec.ofInt 32 (b : Int)).toNat : Int) = _
  rw [BitVec.toNat_xor, ofInt_nat, ofInt_nat, wrap32_nat, xor32]
  congr 1
  rw [← Nat.xor_mod_two_pow (n := 32)]
  simp

section
variable {P : Program} {ρ : Operand → Value} {d : Option Tmp} {x y : Operand} {t ty yt : TypeId} {ps : String} {af : Array Edge} {g : Option (Nat × Bool)} {w : World}

theorem e_move {v : Value} (h : ρ x = v) : (execOp ρ { dst := d, op := .move x, type := ty, pos := ps, after := af, guard := g }).run P w = .ok (.value v) w := by rw [← h]; rfl
theorem e_assign {v : Value} (h : ρ x = v) : (execOp ρ { dst := d, op := .assign x, type := ty, pos := ps, after := af, guard := g }).run P w = .ok (.value v) w := by rw [← h]; rfl
theorem e_pick {c a b : Operand} {t : Bool} {u v : Value} (hc : ρ c = .bool t) (ha : ρ a = u) (hb : ρ b = v) : (execOp ρ { dst := d, op := .pick c a b, type := ty, pos := ps, after := af, guard := g }).run P w = .ok (.value (if t then u else v)) w := by
  subst ha hb
  simp [execOp, hc, asBool]
theorem e_pick_t {c a b : Operand} {u : Value} (hc : ρ c = .bool true) (ha : ρ a = u) : (execOp ρ { dst := d, op := .pick c a b, type := ty, pos := ps, after := af, guard := g }).run P w = .ok (.value u) w := by
  subst ha
  simp [execOp, hc, asBool]
theorem e_pick_f {c a b : Operand} {u : Value} (hc : ρ c = .bool false) (hb : ρ b = u) : (execOp ρ { dst := d, op := .pick c a b, type := ty, pos := ps, after := af, guard := g }).run P w = .ok (.value u) w := by
  subst hb
  simp [execOp, hc, asBool]
theorem e_nil {v : Value} (hx : ρ x = v) (hv : (match v with | .pointer (some _) => true | _ => false) = true) : (execOp ρ { dst := d, op := .nilCheck x, type := ty, pos := ps, after := af, guard := g }).run P w = .ok (.value v) w := by
  cases v with
  | pointer p =>
    cases p with
    | none => cases hv
    | some a => simp [execOp, hx]
  | _ => cases hv
theorem e_extract {vs : Array Value} {i : Nat} {v : Value} (hx : ρ x = .tuple vs) (hv : vs[i]? = some v) : (execOp ρ { dst := d, op := .extract x i, type := ty, pos := ps, after := af, guard := g }).run P w = .ok (.value v) w := by
  simp [execOp, hx, Instr.extract, hv]
theorem run_bin {op : BinOp} {v : Value} (h : ∀ w, (binOp op t (ρ x) (ρ y)).run P w = .ok v w) (hg : ∀ w, (eqGuard op t x y (ρ x) (ρ y)).run P w = .ok () w) :
    (execOp ρ { dst := d, op := .binOp op t x y yt, type := ty, pos := ps, after := af, guard := g }).run P w = .ok (.value v) w := by
  simp [execOp, hg, h]

variable {k : IntKind} {a b : Int}
theorem e_int (op : BinOp) {v : Value} (hx : ρ x = .int k a) (hy : ρ y = .int k b) (h : ∀ w, (binOp op t (.int k a) (.int k b)).run P w = .ok v w) :
    (execOp ρ { dst := d, op := .binOp op t x y yt, type := ty, pos := ps, after := af, guard := g }).run P w = .ok (.value v) w :=
  run_bin (by rw [hx, hy]; exact h) (by intro w; rw [hx]; cases op <;> rfl)
theorem e_add64 (hx : ρ x = .int .i64 a) (hy : ρ y = .int .i64 b) (hb : -9223372036854775808 ≤ a + b ∧ a + b ≤ 9223372036854775807) :
    (execOp ρ { dst := d, op := .binOp .add t x y yt, type := ty, pos := ps, after := af, guard := g }).run P w = .ok (.value (.int .i64 (a + b))) w :=
  e_int .add hx hy fun w => by simp [binOp, Op.intArith, IntWalk.i64_in _ hb]
theorem e_sub64 (hx : ρ x = .int .i64 a) (hy : ρ y = .int .i64 b) (hb : -9223372036854775808 ≤ a - b ∧ a - b ≤ 9223372036854775807) :
    (execOp ρ { dst := d, op := .binOp .sub t x y yt, type := ty, pos := ps, after := af, guard := g }).run P w = .ok (.value (.int .i64 (a - b))) w :=
  e_int .sub hx hy fun w => by simp [binOp, Op.intArith, IntWalk.i64_in _ hb]
theorem e_mul64 (hx : ρ x = .int .i64 a) (hy : ρ y = .int .i64 b) (hb : -9223372036854775808 ≤ a * b ∧ a * b ≤ 9223372036854775807) :
    (execOp ρ { dst := d, op := .binOp .mul t x y yt, type := ty, pos := ps, after := af, guard := g }).run P w = .ok (.value (.int .i64 (a * b))) w :=
  e_int .mul hx hy fun w => by simp [binOp, Op.intArith, IntWalk.i64_in _ hb]
theorem e_quo64 (hx : ρ x = .int .i64 a) (hy : ρ y = .int .i64 b) (h0 : 0 ≤ a ∧ a ≤ 9223372036854775807 ∧ 1 ≤ b) :
    (execOp ρ { dst := d, op := .binOp .quo t x y yt, type := ty, pos := ps, after := af, guard := g }).run P w = .ok (.value (.int .i64 (a / b))) w :=
  e_int .quo hx hy fun w => by
    have : ¬ b = 0 := by omega
    simp [binOp, Op.intDiv, this, IntWalk.i64_quo a b h0]
theorem e_rem64 (hx : ρ x = .int .i64 a) (hy : ρ y = .int .i64 b) (h0 : 0 ≤ a ∧ 1 ≤ b) :
    (execOp ρ { dst := d, op := .binOp .rem t x y yt, type := ty, pos := ps, after := af, guard := g }).run P w = .ok (.value (.int .i64 (a % b))) w :=
  e_int .rem hx hy fun w => by
    have : ¬ b = 0 := by omega
    simp [binOp, Op.intDiv, this, IntWalk.rem_in a b h0.1]
theorem e_lss (hx : ρ x = .int k a) (hy : ρ y = .int k b) : (execOp ρ { dst := d, op := .binOp .lss t x y yt, type := ty, pos := ps, after := af, guard := g }).run P w = .ok (.value (.bool (decide (a < b)))) w :=
  e_int .lss hx hy fun w => by simp [binOp, Op.intCmp]
theorem e_leq (hx : ρ x = .int k a) (hy : ρ y = .int k b) : (execOp ρ { dst := d, op := .binOp .leq t x y yt, type := ty, pos := ps, after := af, guard := g }).run P w = .ok (.value (.bool (decide (a ≤ b)))) w :=
  e_int .leq hx hy fun w => by simp [binOp, Op.intCmp]
theorem e_gtr (hx : ρ x = .int k a) (hy : ρ y = .int k b) : (execOp ρ { dst := d, op := .binOp .gtr t x y yt, type := ty, pos := ps, after := af, guard := g }).run P w = .ok (.value (.bool (decide (b < a)))) w :=
  e_int .gtr hx hy fun w => by simp [binOp, Op.intCmp]
theorem e_geq (hx : ρ x = .int k a) (hy : ρ y = .int k b) : (execOp ρ { dst := d, op := .binOp .geq t x y yt, type := ty, pos := ps, after := af, guard := g }).run P w = .ok (.value (.bool (decide (b ≤ a)))) w :=
  e_int .geq hx hy fun w => by simp [binOp, Op.intCmp]
theorem e_eql (hx : ρ x = .int k a) (hy : ρ y = .int k b) : (execOp ρ { dst := d, op := .binOp .eql t x y yt, type := ty, pos := ps, after := af, guard := g }).run P w = .ok (.value (.bool (decide (a = b)))) w :=
  e_int .eql hx hy fun w => by
    have : (a == b) = decide (a = b) := by by_cases h : a = b <;> simp [h]
    simp [binOp, Op.intCmp, this]
theorem e_neq (hx : ρ x = .int k a) (hy : ρ y = .int k b) : (execOp ρ { dst := d, op := .binOp .neq t x y yt, type := ty, pos := ps, after := af, guard := g }).run P w = .ok (.value (.bool (decide (¬ a = b)))) w :=
  e_int .neq hx hy fun w => by
    have : (a != b) = decide (¬ a = b) := by by_cases h : a = b <;> simp [h]
    simp [binOp, Op.intCmp, this]
/-- comparisons decided by what is known -/
theorem e_lss_t (hx : ρ x = .int k a) (hy : ρ y = .int k b) (h : a < b) : (execOp ρ { dst := d, op := .binOp .lss t x y yt, type := ty, pos := ps, after := af, guard := g }).run P w = .ok (.value (.bool true)) w := by
  have := e_lss (P := P) (d := d) (t := t) (yt := yt) (ty := ty) (ps := ps) (af := af) (g := g) (w := w) hx hy
  simpa [h] using this
theorem e_lss_f (hx : ρ x = .int k a) (hy : ρ y = .int k b) (h : ¬ a < b) : (execOp ρ { dst := d, op := .binOp .lss t x y yt, type := ty, pos := ps, after := af, guard := g }).run P w = .ok (.value (.bool false)) w := by
  have := e_lss (P := P) (d := d) (t := t) (yt := yt) (ty := ty) (ps := ps) (af := af) (g := g) (w := w) hx hy
  simpa [h] using this
theorem e_not {b : Bool} (hx : ρ x = .bool b) : (execOp ρ { dst := d, op := .unOp .not t x, type := ty, pos := ps, after := af, guard := g }).run P w = .ok (.value (.bool (!b))) w := by
  simp [execOp, hx, Op.unary]

variable {m n : Nat}
theorem e_add32 (hx : ρ x = .int .u32 (m : Int)) (hy : ρ y = .int .u32 (n : Int)) : (execOp ρ { dst := d, op := .binOp .add t x y yt, type := ty, pos := ps, after := af, guard := g }).run P w = .ok (.value (.int .u32 (add32 m n : Int))) w :=
  e_int .add hx hy fun w => by
    have : IntKind.u32.wrap ((m : Int) + (n : Int)) = (add32 m n : Int) := by rw [IntKind.wrap_u32, add32]; omega
    simp [binOp, Op.intArith, this]
theorem e_and32 (hx : ρ x = .int .u32 (m : Int)) (hy : ρ y = .int .u32 (n : Int)) : (execOp ρ { dst := d, op := .binOp .and t x y yt, type := ty, pos := ps, after := af, guard := g }).run P w = .ok (.value (.int .u32 (and32 m n : Int))) w :=
  e_int .and hx hy fun w => congrArg (fun z => Result.ok (Value.int .u32 z) w) (bits_and32 m n)
theorem e_or32 (hx : ρ x = .int .u32 (m : Int)) (hy : ρ y = .int .u32 (n : Int)) : (execOp ρ { dst := d, op := .binOp .or t x y yt, type := ty, pos := ps, after := af, guard := g }).run P w = .ok (.value (.int .u32 (or32 m n : Int))) w :=
  e_int .or hx hy fun w => congrArg (fun z => Result.ok (Value.int .u32 z) w) (bits_or32 m n)
theorem e_xor32 (hx : ρ x = .int .u32 (m : Int)) (hy : ρ y = .int .u32 (n : Int)) : (execOp ρ { dst := d, op := .binOp .xor t x y yt, type := ty, pos := ps, after := af, guard := g }).run P w = .ok (.value (.int .u32 (xor32 m n : Int))) w :=
  e_int .xor hx hy fun w => congrArg (fun z => Result.ok (Value.int .u32 z) w) (bits_xor32 m n)
theorem e_shl32 {yk : IntKind} (n : Nat) (hx : ρ x = .int .u32 (m : Int)) (hy : ρ y = .int yk (n : Int)) (hn : n ≤ 32) : (execOp ρ { dst := d, op := .binOp .shl t x y yt, type := ty, pos := ps, after := af, guard := g }).run P w = .ok (.value (.int .u32 (shl32 m n : Int))) w :=
  run_bin (by
    intro w
    rw [hx, hy]
    have h : min n 32 = n := by omega
    simp only [binOp, Op.shift, Int.toNat_natCast, IntKind.bits, h]
    rw [if_neg (by omega)]
    simp only [Sem.run_pure, IntKind.wrap_u32, shl32, Nat.shiftLeft_eq]
    congr 2) (by intro w; rw [hx]; rfl)
theorem e_shr32 {yk : IntKind} (n : Nat) (hx : ρ x = .int .u32 (m : Int)) (hy : ρ y = .int yk (n : Int)) (hn : n ≤ 32) : (execOp ρ { dst := d, op := .binOp .shr t x y yt, type := ty, pos := ps, after := af, guard := g }).run P w = .ok (.value (.int .u32 (shr32 m n : Int))) w :=
  run_bin (by
    intro w
    rw [hx, hy]
    have h : min n 32 = n := by omega
    simp only [binOp, Op.shift, Int.toNat_natCast, IntKind.bits, h]
    rw [if_neg (by omega)]
    simp only [Sem.run_pure, shr32, Nat.shiftRight_eq_div_pow]
    congr 2
    rw [Int.fdiv_eq_ediv_of_nonneg _ (by exact Int.le_of_lt (Int.pow_pos (by decide)))]
    simp) (by intro w; rw [hx]; rfl)
theorem e_not32 (hx : ρ x = .int .u32 (m : Int)) : (execOp ρ { dst := d, op := .unOp .xor t x, type := ty, pos := ps, after := af, guard := g }).run P w = .ok (.value (.int .u32 (not32 m : Int))) w := by
  have h1 : (if IntKind.u32.signed then (-1 : Int) else IntKind.u32.max) = ((4294967295 : Nat) : Int) := by decide
  have h2 : bits .xor .u32 ((4294967295 : Nat) : Int) (m : Int) = (not32 m : Int) := by
    show IntKind.u32.wrap ((BitVec.ofInt 32 ((4294967295 : Nat) : Int) ^^^ BitVec.ofInt 32 (m : Int)).toNat : Int) = _
    have e : BitVec.ofInt 32 ((4294967295 : Nat) : Int) = BitVec.allOnes 32 := by decide
    rw [e, BitVec.allOnes_xor, BitVec.toNat_not, ofInt_nat, wrap32_nat, not32]
    congr 1
    omega
  have h3 : ∀ w, (Op.unary .xor (.int .u32 (m : Int))).run P w = .ok (.int .u32 (not32 m : Int)) w := fun w => by
    show (Op.intBits .xor .u32 _ (m : Int)).run P w = _
    rw [h1]
    exact congrArg (fun z => Result.ok (Value.int .u32 z) w) h2
  simp [execOp, hx, h3]
/-- '>>' of an int from 0 on, of a uint64 -/
theorem e_shr64 {yk : IntKind} (n : Nat) (hx : ρ x = .int k (m : Int)) (hy : ρ y = .int yk (n : Int)) (hn : n ≤ k.bits) : (execOp ρ { dst := d, op := .binOp .shr t x y yt, type := ty, pos := ps, after := af, guard := g }).run P w = .ok (.value (.int k ((m >>> n : Nat) : Int))) w :=
  run_bin (by
    intro w
    rw [hx, hy]
    have h : min n k.bits = n := by omega
    simp only [binOp, Op.shift, Int.toNat_natCast, h]
    rw [if_neg (by omega)]
    simp only [Sem.run_pure, Nat.shiftRight_eq_div_pow]
    congr 2
    rw [Int.fdiv_eq_ediv_of_nonneg _ (by exact Int.le_of_lt (Int.pow_pos (by decide)))]
    simp) (by intro w; rw [hx]; rfl)
/-- conversions -/
theorem e_conv {j : IntKind} {u : TypeDesc} {s : TypeId} (hx : ρ x = .int k a) (hs : P.underlying s = some u) (hu : u ≠ .unsafePointer) (ht : P.underlying t = some (.int j)) : (execOp ρ { dst := d, op := .convert s t x, type := ty, pos := ps, after := af, guard := g }).run P w = .ok (.value (.int j (j.wrap a))) w := by
  simp [execOp, hx, convert, run_underlying hs, run_underlying ht, Conv.intToInt]
theorem e_conv_in {j : IntKind} {u : TypeDesc} {s : TypeId} (hx : ρ x = .int k a) (hs : P.underlying s = some u) (hu : u ≠ .unsafePointer) (ht : P.underlying t = some (.int j)) (hw : j.wrap a = b) : (execOp ρ { dst := d, op := .convert s t x, type := ty, pos := ps, after := af, guard := g }).run P w = .ok (.value (.int j b)) w := by
  rw [e_conv hx hs hu ht, hw]
end

/-! ### Memory -/
/-- What an operation does: it yields, or stores, or calls; behind it R. -/
def Does (P : Program) (ρ : Operand → Value) (o : Oper) (w : World) (R : Value → World → Prop) : Prop :=
  (∃ v w', (execOp ρ o).run P w = .ok (.value v) w' ∧ R v w') ∨ (∃ w', (execOp ρ o).run P w = .ok .skip w' ∧ R undef w') ∨
  (∃ k args, (execOp ρ o).run P w = .ok (.enter k (List.toArray args)) w ∧ Ret P k args w R)
section
variable {P : Program} {ops : Array Oper} {Q : Exit → Act → World → Prop} {S : World → Prop} {N : Act → World → Prop} {n : Nat} {f : Nat → Value} {w : World} {o oj : Oper} {rest : List Oper} {rest' : List (Bool × Oper)} {R : Value → World → Prop} {j d : Nat} {b want : Bool}
theorem p_doesO (hd : Does P (ev n f) o w R) (hg : o.guard = none) (h : ∀ v w', R v w' → wpList P ops Q rest (F n (updo f o.dst v)) w') : wpList P ops Q (o :: rest) (F n f) w := by
  rcases hd with ⟨v, w', hr, hR⟩ | ⟨w', hr, hR⟩ | ⟨k, args, hr, hc⟩
  · exact p_valO hr hg (h v w' hR)
  · exact p_skipO hr hg (h _ w' hR)
  · exact p_callO hr hg hc h
theorem q_doesO (hd : Does P (ev n f) o w R) (hg : o.guard = none) (h : ∀ v w', R v w' → S w' ∧ seqH P ops Q S N rest' (F n (updo f o.dst v)) w') : seqH P ops Q S N ((false, o) :: rest') (F n f) w := by
  rcases hd with ⟨v, w', hr, hR⟩ | ⟨w', hr, hR⟩ | ⟨k, args, hr, hc⟩
  · exact q_effO hr hg (h v w' hR).1 (h v w' hR).2
  · exact q_skipO hr hg (h _ w' hR).1 (h _ w' hR).2
  · exact q_callO hr hg hc h
theorem qg_doesO (hg : o.guard = some (j, want)) (hj : ops[j]? = some oj) (hjd : oj.dst = some d) (hv : ev n f (.tmp d) = .bool b) (hb : (b == want) = true) (hd : Does P (ev n f) o w R)
    (h : ∀ v w', R v w' → S w' ∧ seqH P ops Q S N rest' (F n (updo f o.dst v)) w') : seqH P ops Q S N ((false, o) :: rest') (F n f) w := by
  rcases hd with ⟨v, w', hr, hR⟩ | ⟨w', hr, hR⟩ | ⟨k, args, hr, hc⟩
  · exact qg_effO hg hj hjd hv hb hr (h v w' hR).1 (h v w' hR).2
  · unfold seqH
    rw [wanted_F hg hj hjd hv, hb, if_pos rfl]
    unfold Oper.wp
    rw [eval_F, hr]
    have := h _ w' hR
    exact ⟨this.1, by rw [put_F]; exact this.2⟩
  · exact qg_callO hg hj hjd hv hb hr hc h
theorem pg_doesO (hg : o.guard = some (j, want)) (hj : ops[j]? = some oj) (hjd : oj.dst = some d) (hv : ev n f (.tmp d) = .bool b) (hb : (b == want) = true) (hd : Does P (ev n f) o w R)
    (h : ∀ v w', R v w' → wpList P ops Q rest (F n (updo f o.dst v)) w') : wpList P ops Q (o :: rest) (F n f) w := by
  rcases hd with ⟨v, w', hr, hR⟩ | ⟨w', hr, hR⟩ | ⟨k, args, hr, hc⟩
  · exact pg_valO hg hj hjd hv hb hr (h v w' hR)
  · refine wpList_step fun K hK => ?_
    rw [wanted_F hg hj hjd hv, hb, if_pos rfl]
    unfold Oper.wp
    rw [eval_F, hr]
    exact hK _ _ (by rw [put_F]; exact h _ w' hR)
  · exact pg_callO hg hj hjd hv hb hr hc h
variable {d0 : Option Tmp} {op0 : Op} {ty0 : TypeId} {ps0 : String} {af0 : Array Edge} {g0 : Option (Nat × Bool)}
theorem p_does (hd : Does P (ev n f) { dst := d0, op := op0, type := ty0, pos := ps0, after := af0, guard := g0 } w R) (hg : g0 = none) (h : ∀ v w', R v w' → wpList P ops Q rest (F n (updo f d0 v)) w') : wpList P ops Q ({ dst := d0, op := op0, type := ty0, pos := ps0, after := af0, guard := g0 } :: rest) (F n f) w := p_doesO hd hg h
theorem q_does (hd : Does P (ev n f) { dst := d0, op := op0, type := ty0, pos := ps0, after := af0, guard := g0 } w R) (hg : g0 = none) (h : ∀ v w', R v w' → S w' ∧ seqH P ops Q S N rest' (F n (updo f d0 v)) w') : seqH P ops Q S N ((false, { dst := d0, op := op0, type := ty0, pos := ps0, after := af0, guard := g0 }) :: rest') (F n f) w := q_doesO hd hg h
theorem qg_does (hg : g0 = some (j, want)) (hj : ops[j]? = some oj) (hjd : oj.dst = some d) (hv : ev n f (.tmp d) = .bool b) (hb : (b == want) = true) (hd : Does P (ev n f) { dst := d0, op := op0, type := ty0, pos := ps0, after := af0, guard := g0 } w R)
    (h : ∀ v w', R v w' → S w' ∧ seqH P ops Q S N rest' (F n (updo f d0 v)) w') : seqH P ops Q S N ((false, { dst := d0, op := op0, type := ty0, pos := ps0, after := af0, guard := g0 }) :: rest') (F n f) w := qg_doesO hg hj hjd hv hb hd h
theorem pg_does (hg : g0 = some (j, want)) (hj : ops[j]? = some oj) (hjd : oj.dst = some d) (hv : ev n f (.tmp d) = .bool b) (hb : (b == want) = true) (hd : Does P (ev n f) { dst := d0, op := op0, type := ty0, pos := ps0, after := af0, guard := g0 } w R)
    (h : ∀ v w', R v w' → wpList P ops Q rest (F n (updo f d0 v)) w') : wpList P ops Q ({ dst := d0, op := op0, type := ty0, pos := ps0, after := af0, guard := g0 } :: rest) (F n f) w := pg_doesO hg hj hjd hv hb hd h
end

section
variable {P : Program} {ρ : Operand → Value} {d : Option Tmp} {x y : Operand} {t ty : TypeId} {ps : String} {af : Array Edge} {g : Option (Nat × Bool)} {w w0 : World} {ex : List Nat} {ks : List (Option Nat)} {pp : List (Option Obj → Prop)}

/-- a call of a Go function -/
theorem run_callGo {k : FuncId} {fn : Func} (hf : P.funcs[k]? = some fn) (hn : (fn.name == "runtime.NumGoroutine") = false) (hb : fn.body.isNone = false) (args : Array Value) (w : World) :
    (callFunc k args).run P w = .ok (.enter k args) w := by
  unfold callFunc
  simp only [Sem.run_bind, run_program, Result.andThen_ok, hf, hn, hb, Bool.false_eq_true, if_false, Sem.run_pure]
theorem d_call {n : Nat} {f : Nat → Value} {k : FuncId} {xs : List Operand} {ats : Array TypeId} {args : List Value} {fn : Func} {R : Value → World → Prop} (hf : P.funcs[k]? = some fn) (hn : (fn.name == "runtime.NumGoroutine") = false) (hb : fn.body.isNone = false)
    (hargs : xs.map (ev n f) = args) (hc : Ret P k args w R) :
    Does P (ev n f) { dst := d, op := .call { callee := .value (.func k), args := xs.toArray, argTypes := ats }, type := ty, pos := ps, after := af, guard := g } w R := by
  refine .inr (.inr ⟨k, args, ?_, hc⟩)
  have h := run_callGo hf hn hb args.toArray w
  subst hargs
  have e : (#[] ++ (xs.toArray.map (ev n f)) ++ #[] : Array Value) = (xs.map (ev n f)).toArray := by simp
  show (callFunc k (#[] ++ (xs.toArray.map (ev n f)) ++ #[])).run P w = _
  rw [e]
  exact h

theorem d_alloc {z : Value} (S : St w0 w ex ks pp) (hz : Zv P t z) : Does P ρ { dst := d, op := .alloc t, type := ty, pos := ps, after := af, guard := g } w
    fun v w' => ∃ b, v = .pointer (some ⟨b, 0, none⟩) ∧ St w0 w' ex (some b :: ks) (Ex z.cells t :: pp) := by
  refine .inl ⟨.pointer (some ⟨w.heap.size, 0, none⟩), w.alloc (.cells z.cells t), ?_, _, rfl, S.alloc _ _ rfl⟩
  have hz' := hz w
  simp [execOp, Instr.alloc, hz', newVar, newRow]
theorem d_box {v : Value} (S : St w0 w ex ks pp) (hx : ρ x = v) : Does P ρ { dst := d, op := .box t x, type := ty, pos := ps, after := af, guard := g } w
    fun u w' => ∃ b, u = .pointer (some ⟨b, 0, none⟩) ∧ St w0 w' ex (some b :: ks) (Ex v.cells t :: pp) := by
  refine .inl ⟨.pointer (some ⟨w.heap.size, 0, none⟩), w.alloc (.cells v.cells t), ?_, _, rfl, S.alloc _ _ rfl⟩
  simp [execOp, Instr.box, hx, newVar, newRow]

/-- addresses -/
theorem e_ix_arr {ad : Addr} {k : IntKind} {i : Int} {len s : Nat} {e : TypeId} (hx : ρ x = .pointer (some ad)) (hy : ρ y = .int k i) (hu : P.underlying t = some (.array len e)) (hs : Sz P e s) (h0 : 0 ≤ i ∧ i < len) :
    (execOp ρ { dst := d, op := .indexAddr t x y, type := ty, pos := ps, after := af, guard := g }).run P w = .ok (.value (.pointer (some (ad.add (i.toNat * s))))) w := by
  have hs' := hs w
  simp [execOp, hx, hy, Instr.indexAt, asIntOf, run_underlying hu, Instr.sureAddr, hs', h0.1, h0.2]
theorem e_ix_sl {ad : Addr} {k : IntKind} {i : Int} {n c s : Nat} {e : TypeId} (hx : ρ x = .slice (some ad) n c) (hy : ρ y = .int k i) (hu : P.underlying t = some (.slice e)) (hs : Sz P e s) (h0 : 0 ≤ i ∧ i < n) :
    (execOp ρ { dst := d, op := .indexAddr t x y, type := ty, pos := ps, after := af, guard := g }).run P w = .ok (.value (.pointer (some (ad.add (i.toNat * s))))) w := by
  have hs' := hs w
  simp [execOp, hx, hy, Instr.indexAt, asIntOf, run_underlying hu, Instr.sureAddr, hs', h0.1, h0.2]
theorem e_field {ad : Addr} {fs : Array Field} {i s : Nat} {fd : Field} (hx : ρ x = .pointer (some ad)) (hu : P.underlying t = some (.struct fs)) (hf : fs[i]? = some fd) (hs : Sz P fd.type s) (hs0 : ¬ s = 0) :
    (execOp ρ { dst := d, op := .fieldAddr t x i, type := ty, pos := ps, after := af, guard := g }).run P w = .ok (.value (.pointer (some (ad.add fd.offset)))) w := by
  have hs' := hs w
  simp [execOp, hx, Instr.fieldAt, run_underlying hu, hf, Instr.sureAddr, fieldPlace, hs', hs0]
/-- loads -/
theorem e_load {ad : Addr} {v : Value} (hx : ρ x = .pointer (some ad)) (ha : Ag P t false) (hc : w.cell? ad = some v) :
    (execOp ρ { dst := d, op := .load t x, type := ty, pos := ps, after := af, guard := g }).run P w = .ok (.value v) w := by
  have ha' := ha w
  simp [execOp, hx, Instr.loadAt, Instr.sureAddr, loadVar, ha', hc]
theorem e_loadN {ad : Addr} {cs : List Value} {s : Nat} (hx : ρ x = .pointer (some ad)) (ha : Ag P t true) (hs : Sz P t s) (hl : cs.length = s) (hc : ∀ j u, cs[j]? = some u → w.cell? (ad.add j) = some u) :
    (execOp ρ { dst := d, op := .load t x, type := ty, pos := ps, after := af, guard := g }).run P w = .ok (.value (.agg cs.toArray)) w := by
  have ha' := ha w
  have hs' := hs w
  have hr := run_loadCells_list (P := P) w ad cs hc
  rw [hl] at hr
  simp [execOp, hx, Instr.loadAt, Instr.sureAddr, loadVar, ha', hs', hr]
/-- stores -/
theorem d_store1 (S : St w0 w ex ks pp) (i : Nat) {b m : Nat} {cs : Array Value} {e : TypeId} {v : Value} (hx : ρ x = .pointer (some ((⟨b, 0, none⟩ : Addr).add m))) (hy : ρ y = v) (h1 : v.oneCell' = true) (hs : Sz P t 1)
    (hk : ks[i]? = some (some b)) (hp : pp[i]? = some (Ex cs e)) (hm : m < cs.size) :
    Does P ρ { dst := d, op := .store t x y, type := ty, pos := ps, after := af, guard := g } w fun _ w' => St w0 w' ex ks (pp.set i (Ex (cs.setIfInBounds m v) e)) := by
  have hb := S.exact_ i hk hp
  refine .inr (.inl ⟨w.setRow b (cs.setIfInBounds m v), ?_, S.setRow i (Ex _ _) hk hb rfl⟩)
  have hs' := hs w
  have hcs : v.cells = #[v] := by cases v <;> simp_all [Value.oneCell', Value.cells]
  have hc : w.cell? ⟨b, m, none⟩ = some cs[m] := by rw [cell_of_row w b m cs e (0, 0) hb, Array.getElem?_eq_getElem hm]
  have hf : w.frozen? ⟨b, m, none⟩ = false := frozen_of_row w b m cs e hb
  have hst := run_store P w ⟨b, m, none⟩ v .plain h1
  rw [hc] at hst
  simp only [hf, Bool.false_eq_true, if_false] at hst
  simp [execOp, hx, hy, Instr.storeAt, Instr.sureAddr, storeVar, hs', hcs, storeCells, add_zero, add_lit, hst, setCell_eq_setRow w b m cs e (0, 0) v hb]
theorem d_storeN (S : St w0 w ex ks pp) (i : Nat) {b m s : Nat} {cs : Array Value} {e : TypeId} {vs : List Value} (hx : ρ x = .pointer (some ((⟨b, 0, none⟩ : Addr).add m))) (hy : ρ y = .agg vs.toArray) (h1 : ∀ v ∈ vs, v.oneCell' = true) (hs : Sz P t s) (hl : vs.length = s)
    (hk : ks[i]? = some (some b)) (hp : pp[i]? = some (Ex cs e)) (hm : m + s ≤ cs.size) :
    Does P ρ { dst := d, op := .store t x y, type := ty, pos := ps, after := af, guard := g } w fun _ w' => St w0 w' ex ks (pp.set i (Ex (cs.toList.take m ++ vs ++ cs.toList.drop (m + s)).toArray e)) := by
  have hb := S.exact_ i hk hp
  refine .inr (.inl ⟨w.setRow b (cs.toList.take m ++ vs ++ cs.toList.drop (m + s)).toArray, ?_, S.setRow i (Ex _ _) hk hb rfl⟩)
  have hs' := hs w
  have hr := run_storeCells_at P b m e vs 0 cs w hb (by simpa [hl] using hm) h1
  simp only [Nat.add_zero, hl] at hr
  simp [execOp, hx, hy, Instr.storeAt, Instr.sureAddr, storeVar, hs', Value.cells, hl, add_lit, hr]
/-- a whole block of its own is stored to -/
theorem d_storeW (S : St w0 w ex ks pp) (i : Nat) {b s : Nat} {cs : Array Value} {e : TypeId} {vs : List Value} (hx : ρ x = .pointer (some ⟨b, 0, none⟩)) (hy : ρ y = .agg vs.toArray) (h1 : ∀ v ∈ vs, v.oneCell' = true) (hs : Sz P t s) (hl : vs.length = s)
    (hk : ks[i]? = some (some b)) (hp : pp[i]? = some (Ex cs e)) (hm : cs.size = s) :
    Does P ρ { dst := d, op := .store t x y, type := ty, pos := ps, after := af, guard := g } w fun _ w' => St w0 w' ex ks (pp.set i (Ex vs.toArray e)) := by
  have h := d_storeN (P := P) (ρ := ρ) (d := d) (x := x) (y := y) (t := t) (ty := ty) (ps := ps) (af := af) (g := g) S i (m := 0) (by rw [hx, add_zero]) hy h1 hs hl hk hp (by omega)
  have e1 : (cs.toList.take 0 ++ vs ++ cs.toList.drop (0 + s)).toArray = vs.toArray := by
    rw [List.take_zero, List.nil_append, Nat.zero_add, List.drop_of_length_le (by simp; omega), List.append_nil]
  rw [e1] at h
  exact h
/-- len -/
theorem e_len {A : Option Addr} {n c : Nat} {u : TypeId} {e : TypeId} (hx : ρ x = .slice A n c) (hu : P.underlying u = some (.slice e)) :
    (execOp ρ { dst := d, op := .call { callee := .builtin .len, args := #[x], argTypes := #[u] }, type := ty, pos := ps, after := af, guard := g }).run P w = .ok (.value (.int .i64 (n : Int))) w := by
  show ((do pure (.value (← Builtin.len_ #[u] ty (#[x].map ρ)))) : Sem Next).run P w = _
  simp [Builtin.len_, run_underlying hu, hx, goInt]

theorem d_allocA {z : List Value} (S : St w0 w ex ks pp) (hz : Zv P t (.agg z.toArray)) : Does P ρ { dst := d, op := .alloc t, type := ty, pos := ps, after := af, guard := g } w
    fun v w' => ∃ b, v = .pointer (some ⟨b, 0, none⟩) ∧ St w0 w' ex (some b :: ks) (Ex z.toArray t :: pp) := d_alloc S hz
theorem d_boxA {cs : Array Value} (S : St w0 w ex ks pp) (hx : ρ x = .agg cs) : Does P ρ { dst := d, op := .box t x, type := ty, pos := ps, after := af, guard := g } w
    fun u w' => ∃ b, u = .pointer (some ⟨b, 0, none⟩) ∧ St w0 w' ex (some b :: ks) (Ex cs t :: pp) := d_box S hx

/-! slices of arrays, of slices -/
theorem e_sl_arr {ad : Addr} {n s : Nat} {e : TypeId} (hx : ρ x = .pointer (some ad)) (hu : P.underlying t = some (.array n e)) (hs : Sz P e s) :
    (execOp ρ { dst := d, op := .slice t x none none none, type := ty, pos := ps, after := af, guard := g }).run P w = .ok (.value (.slice (some ad) n n)) w := by
  have hs' := hs w
  simp [execOp, hx, Instr.sliceAt, Instr.sureAddr, Instr.sliceBounds, run_underlying hu, hs', add_zero]
theorem e_sl_arr_h {ad : Addr} {n s : Nat} {e : TypeId} {k : IntKind} {i : Int} {y : Operand} (m : Nat) (hx : ρ x = .pointer (some ad)) (hy : ρ y = .int k i) (hi : i = (m : Int)) (hm : m ≤ n) (hu : P.underlying t = some (.array n e)) (hs : Sz P e s) :
    (execOp ρ { dst := d, op := .slice t x none (some y) none, type := ty, pos := ps, after := af, guard := g }).run P w = .ok (.value (.slice (some ad) m n)) w := by
  have hs' := hs w
  subst hi
  have h1 : (m : Int) ≤ (n : Int) := by omega
  simp [execOp, hx, hy, Instr.sliceAt, Instr.sureAddr, Instr.sliceBounds, Instr.sliceBound, asIntOf, run_underlying hu, hs', add_zero, hm]
theorem e_sl_arr_l {ad : Addr} {n s : Nat} {e : TypeId} {k : IntKind} {i : Int} {y : Operand} (m : Nat) (hx : ρ x = .pointer (some ad)) (hy : ρ y = .int k i) (hi : i = (m : Int)) (hm : m < n) (hu : P.underlying t = some (.array n e)) (hs : Sz P e s) :
    (execOp ρ { dst := d, op := .slice t x (some y) none none, type := ty, pos := ps, after := af, guard := g }).run P w = .ok (.value (.slice (some (ad.add (m * s))) (n - m) (n - m))) w := by
  have hs' := hs w
  subst hi
  have h1 : (m : Int) ≤ (n : Int) := by omega
  have h2 : ¬ n = m := by omega
  have h3 : m ≤ n := by omega
  simp [execOp, hx, hy, Instr.sliceAt, Instr.sureAddr, Instr.sliceBounds, Instr.sliceBound, asIntOf, run_underlying hu, hs', h2, h3]
theorem e_sl_h {A : Option Addr} {n c s : Nat} {e : TypeId} {k : IntKind} {i : Int} {y : Operand} (m : Nat) (hx : ρ x = .slice A n c) (hy : ρ y = .int k i) (hi : i = (m : Int)) (hm : m ≤ c) (hu : P.underlying t = some (.slice e)) (hs : Sz P e s) :
    (execOp ρ { dst := d, op := .slice t x none (some y) none, type := ty, pos := ps, after := af, guard := g }).run P w = .ok (.value (.slice A m c)) w := by
  have hs' := hs w
  subst hi
  have h0 : (fun a : Addr => a.add 0) = id := funext add_zero
  simp [execOp, hx, hy, Instr.sliceAt, Instr.slice, Instr.sliceBounds, Instr.sliceBound, asIntOf, run_underlying hu, hs', hm, h0]
theorem e_sl_l {A : Option Addr} {n c s : Nat} {e : TypeId} {k : IntKind} {i : Int} {y : Operand} (m : Nat) (hx : ρ x = .slice A n c) (hy : ρ y = .int k i) (hi : i = (m : Int)) (hm : m ≤ n) (hu : P.underlying t = some (.slice e)) (hs : Sz P e s) :
    (execOp ρ { dst := d, op := .slice t x (some y) none none, type := ty, pos := ps, after := af, guard := g }).run P w = .ok (.value (.slice (if c = m then A else A.map (·.add (m * s))) (n - m) (c - m))) w := by
  have hs' := hs w
  subst hi
  simp [execOp, hx, hy, Instr.sliceAt, Instr.slice, Instr.sliceBounds, Instr.sliceBound, asIntOf, run_underlying hu, hs', hm]
theorem e_sl_lh {A : Option Addr} {n c s : Nat} {e : TypeId} {k k' : IntKind} {i i' : Int} {y z : Operand} (m m' : Nat) (hx : ρ x = .slice A n c) (hy : ρ y = .int k i) (hz : ρ z = .int k' i') (hi : i = (m : Int)) (hi' : i' = (m' : Int)) (hm : m ≤ m') (hm' : m' ≤ c) (hu : P.underlying t = some (.slice e)) (hs : Sz P e s) :
    (execOp ρ { dst := d, op := .slice t x (some y) (some z) none, type := ty, pos := ps, after := af, guard := g }).run P w = .ok (.value (.slice (if c = m then A else A.map (·.add (m * s))) (m' - m) (c - m))) w := by
  have hs' := hs w
  subst hi hi'
  simp [execOp, hx, hy, hz, Instr.sliceAt, Instr.slice, Instr.sliceBounds, Instr.sliceBound, asIntOf, run_underlying hu, hs', hm, hm']

/-! literals of slices: the parts one behind the other -/
theorem foldl_set (c : Array Value) (off : Nat) : ∀ (l : List Value) (k : Nat) (cs : Array Value), off + k + l.length ≤ cs.size →
    (l.zipIdx k).foldl (fun (cs : Array Value) (x : Value × Nat) => cs.setIfInBounds (off + x.2) x.1) cs = (cs.toList.take (off + k) ++ l ++ cs.toList.drop (off + k + l.length)).toArray
  | [], k, cs, _ => by simp
  | v :: l, k, cs, h => by
    simp only [List.zipIdx_cons, List.foldl_cons]
    simp only [List.length_cons] at h
    rw [foldl_set c off l (k + 1) (cs.setIfInBounds (off + k) v) (by simp; omega)]
    have e := list_seg_step cs.toList (off + k) v l (by simp; omega)
    simpa [Array.toList_setIfInBounds, Nat.add_assoc] using e
theorem fill_seq (size : Nat) : ∀ (vs : List Value) (k : Nat) (cs : Array Value), (∀ v ∈ vs, v.cells.size = size) → (k + vs.length) * size = cs.size →
    Instr.fill (fun i => some (i * size, size)) cs ((List.range' k vs.length).zip vs) = some (cs.toList.take (k * size) ++ vs.flatMap fun v => v.cells.toList).toArray
  | [], k, cs, _, h => by
    have : cs.toList.take (k * size) = cs.toList := List.take_of_length_le (by simp at h ⊢; omega)
    simp [Instr.fill, this]
  | v :: vs, k, cs, hv, h => by
    have h0 := hv v (by simp)
    have h1 : (k + 1) * size ≤ (k + (v :: vs).length) * size := Nat.mul_le_mul_right _ (by simp)
    rw [Nat.add_mul, Nat.one_mul] at h1
    have hle : k * size + v.cells.size ≤ cs.size := by omega
    simp only [List.length_cons, List.range'_succ, List.zip_cons_cons, Instr.fill]
    have hc : (decide (v.cells.size ≠ size) || decide (k * size + v.cells.size > cs.size)) = false := by
      simp [h0]
      omega
    have hf := foldl_set #[] (k * size) v.cells.toList 0 cs (by simpa using hle)
    simp only [Nat.add_zero] at hf
    have hz : v.cells.zipIdx.foldl (fun (cs : Array Value) (x : Value × Nat) => cs.setIfInBounds (k * size + x.2) x.1) cs = (cs.toList.take (k * size) ++ v.cells.toList ++ cs.toList.drop (k * size + v.cells.toList.length)).toArray := by
      rw [← hf, ← Array.foldl_toList, Array.toList_zipIdx]
    simp only [hc, Bool.false_eq_true, if_false]
    rw [hz, fill_seq size vs (k + 1) _ (fun u hu => hv u (by simp [hu])) (by
      simp only [List.size_toArray, List.length_append, List.length_take, List.length_drop, Array.length_toList]
      rw [h0]
      simp only [List.length_cons] at h
      rw [show k + 1 + vs.length = k + (vs.length + 1) by omega, h]
      omega)]
    congr 2
    have e2 : (cs.toList.take (k * size) ++ v.cells.toList ++ cs.toList.drop (k * size + v.cells.toList.length)).take ((k + 1) * size) = cs.toList.take (k * size) ++ v.cells.toList := by
      rw [List.take_append_of_le_length (by simp [h0, Nat.add_mul]; omega)]
      exact List.take_of_length_le (by simp [h0, Nat.add_mul]; omega)
    show List.take ((k + 1) * size) (cs.toList.take (k * size) ++ v.cells.toList ++ cs.toList.drop (k * size + v.cells.toList.length)) ++ _ = _
    rw [e2, List.flatMap_cons, List.append_assoc]
theorem d_lit {e : TypeId} {n size : Nat} {parts : List (Nat × Operand)} {vs : List Value} {z : Value} (S : St w0 w ex ks pp) (hu : P.underlying t = some (.slice e)) (hs : Sz P e size) (hz : Zv P e z) (hsz : z.cells.size = size) (hpos : 0 < size)
    (hp : parts.map (fun q => (q.1, ρ q.2)) = (List.range' 0 n).zip vs) (hn : vs.length = n) (hv : ∀ v ∈ vs, v.cells.size = size) (hlim : n * size ≤ 16777216) :
    Does P ρ { dst := d, op := .buildSlice t n parts.toArray, type := ty, pos := ps, after := af, guard := g } w
      fun v w' => ∃ b, v = .slice (at_ (some b)) n n ∧ St w0 w' ex (some b :: ks) (Rw e size n n (vs.flatMap fun v => v.cells.toList) :: pp) := by
  have hfl : ∀ l : List Value, (∀ v ∈ l, v.cells.size = size) → (l.flatMap fun v => v.cells.toList).length = l.length * size := by
    intro l
    induction l with
    | nil => intro _; simp
    | cons v l ih =>
      intro h
      rw [List.flatMap_cons, List.length_append, ih (fun u hu => h u (by simp [hu])), Array.length_toList, h v (by simp), List.length_cons, Nat.add_mul]
      omega
  have hl := hfl vs hv
  rw [hn] at hl
  refine .inl ⟨.slice (some ⟨w.heap.size, 0, none⟩) n n, w.alloc (.cells (vs.flatMap fun v => v.cells.toList).toArray e), ?_, _, rfl, S.alloc _ _ ⟨hl, .inr ⟨_, rfl, Nat.le_refl _, ?_, by simp [hl], ?_⟩⟩⟩
  · have hs' := hs w
    have hz' := hz w
    have hf := fill_seq size vs 0 ((Array.range (n * size)).map (z.cells[· % z.cells.size]!)) hv (by simp [hn])
    simp only [Nat.zero_mul, List.take_zero, List.nil_append, hn] at hf
    have hpp : (parts.toArray.map fun (q : Nat × Operand) => (q.1, ρ q.2)).toList = (List.range' 0 n).zip vs := by simpa using hp
    have hlim' : ¬ n * size > 16777216 := by omega
    have hrun : (Instr.buildSlice t n (parts.toArray.map fun (q : Nat × Operand) => (q.1, ρ q.2))).run P w = .ok (.slice (some ⟨w.heap.size, 0, none⟩) n n) (w.alloc (.cells (vs.flatMap fun v => v.cells.toList).toArray e)) := by
      unfold Instr.buildSlice
      rw [hpp]
      by_cases h0 : n = 0
      · subst h0
        have hvs : vs = [] := List.eq_nil_of_length_eq_zero (by omega)
        subst hvs
        simp [run_underlying hu, hs', Instr.fill, newRow, show Array.range 0 = #[] from rfl]
      · have h1 : ¬ n * size = 0 := by
          rw [Nat.mul_eq_zero]
          omega
        simp [run_underlying hu, hs', hlim', h1, hz', hf, newRow]
    have hx : (execOp ρ { dst := d, op := .buildSlice t n parts.toArray, type := ty, pos := ps, after := af, guard := g }).run P w = ((Instr.buildSlice t n (parts.toArray.map fun (q : Nat × Operand) => (q.1, ρ q.2))).run P w).andThen fun a w' => .ok (.value a) w' := by
      simp [execOp]
    rw [hx, hrun]
    rfl
  · have : n ≤ n * size := Nat.le_mul_of_pos_right _ hpos
    simp only [maxLen]
    omega
  · rw [List.take_of_length_le]
    simp [hl]

/-! append onto a row of the call's own -/
theorem run_append_nil {base : Nat} {e : TypeId} {size n c : Nat} {v : Value} {xs : List Value} (ht : P.underlying t = some (.slice e)) (hs : Sz P e size) (hown : w.ownsRow base e size v n xs) :
    (Builtin.append_ #[t, t] ty #[v, .slice none 0 c]).run P w = .ok v w := by
  have hs' := hs w
  rcases hown.2 with ⟨rfl, rfl⟩ | ⟨g, cap, cur, rfl, _, _, hnc, _⟩
  · simp [Builtin.append_, run_underlying ht, hs', Builtin.lenOf, Builtin.firstCells]
  · simp [Builtin.append_, run_underlying ht, hs', Builtin.lenOf, Builtin.firstCells, hnc, storeCells]
structure El (P : Program) (e : TypeId) (size bytes : Nat) : Prop where
  info : ∃ i z, P.info? e = some i ∧ i.zero = some z ∧ i.size = size ∧ i.bytes = bytes ∧ z.cells.size = size
  pos : 0 < size
theorem El.sz {e : TypeId} {size bytes : Nat} (h : El P e size bytes) : Sz P e size := by
  obtain ⟨⟨i, z, hi, _, hs, _⟩, _⟩ := h
  intro w
  simp [sizeOf, typeInfo, hi, hs]
theorem d_append {e : TypeId} {size bytes n cap m c : Nat} {k : Option Nat} {A : Option Addr} {xs news : List Value} (S : St w0 w ex ks pp) (i : Nat) (hk : ks[i]? = some k) (hp : pp[i]? = some (Rw e size n cap xs))
    (ht : P.underlying t = some (.slice e)) (he : El P e size bytes) (hx : ρ x = .slice (at_ k) n cap) (hy : ρ y = .slice A m c) (hr : Rd w size A m news) (h1 : ∀ u ∈ news, u.oneCell' = true) (hb : (n + m) * bytes ≤ 140737488355328) (h63 : n + m ≤ maxLen) :
    Does P ρ { dst := d, op := .call { callee := .builtin .append, args := #[x, y], argTypes := #[t, t] }, type := ty, pos := ps, after := af, guard := g } w
      fun v w' => ∃ k' cap', v = .slice (at_ k') (n + m) cap' ∧ St w0 w' ex (ks.set i k') (pp.set i (Rw e size (n + m) cap' (xs ++ news))) := by
  have hlt : ∀ b, k = some b → b < w.heap.size := fun b e => S.lt b (by rw [← e]; exact List.mem_of_getElem? hk)
  have hown := Rw.owns (S.own i _ _ hk hp) hlt
  have key : ∃ v' w', (Builtin.append_ #[t, t] ty #[.slice (at_ k) n cap, .slice A m c]).run P w = .ok v' w' ∧ w'.ownsRow 0 e size v' (n + m) (xs ++ news) ∧ w.grownBy w' k ∧ (v'.ownBlock = k ∨ v'.ownBlock = some w.heap.size) := by
    have hkb : (Value.slice (at_ k) n cap).ownBlock = k := by cases k <;> rfl
    rcases A with _ | ad
    · have hn0 : news = [] := by
        cases news with
        | nil => rfl
        | cons u l =>
          obtain ⟨ad, h, _⟩ := hr.2 0 u rfl
          cases h
      subst hn0
      have hm0 : m = 0 := by
        have := hr.1
        rcases Nat.mul_eq_zero.1 this.symm with h | h
        · exact h
        · have := he.pos
          omega
      subst hm0
      exact ⟨_, w, run_append_nil ht he.sz hown, by simpa using hown, ⟨rfl, rfl, rfl, Nat.le_refl _, fun _ _ _ => rfl⟩, .inl hkb⟩
    · obtain ⟨⟨ti, z, hi, hz, hsz, hby, hzs⟩, hpos⟩ := he
      obtain ⟨v', w', hrun, ho, hg, _, hat⟩ := run_append_own_at (P := P) w 0 t ty e ti z size bytes ht hi hz hsz hby hzs hpos _ n xs hown ad m c news hr.1 (fun j u hu => by
        obtain ⟨ad', e', hc⟩ := hr.2 j u hu
        cases e'
        exact hc) h1 h63 hb (Nat.zero_le _)
      rw [hkb] at hg hat
      exact ⟨v', w', hrun, ho, hg, hat⟩
  obtain ⟨v', w', hrun, ho, hg, hat⟩ := key
  obtain ⟨k', cap', rfl, hrow, hkb', hlt'⟩ := Rw.of_owns ho
  rw [hkb'] at hat
  refine .inl ⟨_, w', ?_, k', cap', rfl, S.grown i hk hg hat hlt' hrow⟩
  show ((do pure (.value (← Builtin.append_ #[t, t] ty (#[x, y].map ρ)))) : Sem Next).run P w = _
  simp [hx, hy, hrun]
/-- copy into a block of its own, element by element of one cell -/
theorem d_copy {e : TypeId} {b off dn dc m c u : Nat} {A : Option Addr} {cs : Array Value} {news : List Value} {bt : TypeId} (S : St w0 w ex ks pp) (i : Nat) (hk : ks[i]? = some (some b)) (hp : pp[i]? = some (Ex cs bt))
    (ht : P.underlying t = some (.slice e)) (hi : (P.info? e).map (·.size) = some 1) (hx : ρ x = .slice (some ((⟨b, 0, none⟩ : Addr).add off)) dn dc) (hy : ρ y = .slice A m c) (hr : Rd w 1 A m news) (h1 : ∀ u ∈ news, u.oneCell' = true)
    (hfit : off + min m dn ≤ cs.size) :
    Does P ρ { dst := d, op := .call { callee := .builtin .copy, args := #[x, y], argTypes := #[t, u] }, type := ty, pos := ps, after := af, guard := g } w
      fun v w' => v = .int .i64 ((min m dn : Nat) : Int) ∧ St w0 w' ex ks (pp.set i (Ex (cs.toList.take off ++ news.take dn ++ cs.toList.drop (off + min m dn)).toArray bt)) := by
  have hb := S.exact_ i hk hp
  have hl : (news.take dn).length = min m dn := by rw [List.length_take, hr.1]; omega
  rw [add_lit] at hx
  have hset : w.setRow b cs = w := setRow_self w b cs bt (0, 0) hb
  refine .inl ⟨.int .i64 ((min m dn : Nat) : Int), w.setRow b (cs.toList.take off ++ news.take dn ++ cs.toList.drop (off + min m dn)).toArray, ?_, rfl, S.setRow i (Ex _ _) hk hb rfl⟩
  show ((do pure (.value (← Builtin.copy_ #[t, u] ty (#[x, y].map ρ)))) : Sem Next).run P w = _
  rcases A with _ | ad
  · have hn0 : news = [] := by
      cases news with
      | nil => rfl
      | cons u l =>
        obtain ⟨ad, h, _⟩ := hr.2 0 u rfl
        cases h
    subst hn0
    have hm0 : m = 0 := by
      have := hr.1
      simpa using this.symm
    subst hm0
    obtain ⟨ti, hti, hsz⟩ := Option.map_eq_some_iff.1 hi
    have e1 : (cs.toList.take off ++ ([] : List Value).take dn ++ cs.toList.drop (off + min 0 dn)).toArray = cs := by simp
    rw [e1, hset]
    simp [hx, hy, Builtin.copy_, run_underlying ht, Builtin.lenOf, Builtin.firstCells, sizeOf, typeInfo, hti, hsz, storeCells, goInt]
  · have hrun := run_copy_row (P := P) w t u ty e b off dn dc ad m c cs bt (news.take dn) ht hi hb hl (fun j v hv => by
      rw [List.getElem?_take] at hv
      split at hv
      · obtain ⟨ad', e', hc⟩ := hr.2 j v hv
        cases e'
        exact hc
      · cases hv) (by rw [hl]; exact hfit) (fun v hv => h1 v (List.mem_of_mem_take hv))
    rw [hl] at hrun
    simp [hx, hy, hrun, goInt]
/-! results that lie in memory -/
theorem postC {fn : Func} {R : Value → World → Prop} {n : Nat} {f : Nat → Value} {p : Tmp} {b s : Nat} {cs : Array Value} {e : TypeId} (h : fn.results = #[.cell p t]) (S : St w0 w ex ks pp) (i : Nat) (hp : ev n f (.tmp p) = .pointer (some ⟨b, 0, none⟩)) (hk : ks[i]? = some (some b)) (hpp : pp[i]? = some (Ex cs e))
    (ha : Ag P t true) (hs : Sz P t s) (hl : cs.size = s) (hR : R (.agg cs) w) : Post P fn R .ret (F n f) w := by
  refine postAny (v := .agg cs) ?_ hR
  have hp' : (F n f).tmps[p]?.getD undef = .pointer (some ⟨b, 0, none⟩) := by rw [← Array.getD_eq_getD_getElem?, F_getD]; exact hp
  have hb := S.exact_ i hk hpp
  have hrow : (loadVar t ⟨b, 0, none⟩).run P w = .ok (.agg cs) w := by
    have hr := run_loadCells_list (P := P) w ⟨b, 0, none⟩ cs.toList (fun j v hv => by rw [add_lit, cell_of_row w b j cs e (0, 0) hb]; simpa using hv)
    have ha' := ha w
    have hs' := hs w
    rw [Array.length_toList, hl] at hr
    simp [loadVar, ha', hs', hr]
  simp only [results, h]
  simp [hp', asAddr, hrow]
theorem postC1 {fn : Func} {R : Value → World → Prop} {n : Nat} {f : Nat → Value} {p q : Tmp} {b s : Nat} {cs : Array Value} {e : TypeId} {v : Value} (h : fn.results = #[.cell p t, .tmp q]) (S : St w0 w ex ks pp) (i : Nat) (hp : ev n f (.tmp p) = .pointer (some ⟨b, 0, none⟩)) (hv : ev n f (.tmp q) = v) (hk : ks[i]? = some (some b)) (hpp : pp[i]? = some (Ex cs e))
    (ha : Ag P t true) (hs : Sz P t s) (hl : cs.size = s) (hR : R (.tuple #[.agg cs, v]) w) : Post P fn R .ret (F n f) w := by
  refine postAny (v := .tuple #[.agg cs, v]) ?_ hR
  have hp' : (F n f).tmps[p]?.getD undef = .pointer (some ⟨b, 0, none⟩) := by rw [← Array.getD_eq_getD_getElem?, F_getD]; exact hp
  have hv' : (F n f).tmps[q]?.getD undef = v := by rw [← Array.getD_eq_getD_getElem?, F_getD]; exact hv
  have hb := S.exact_ i hk hpp
  have hrow : (loadVar t ⟨b, 0, none⟩).run P w = .ok (.agg cs) w := by
    have hr := run_loadCells_list (P := P) w ⟨b, 0, none⟩ cs.toList (fun j v hv => by rw [add_lit, cell_of_row w b j cs e (0, 0) hb]; simpa using hv)
    have ha' := ha w
    have hs' := hs w
    rw [Array.length_toList, hl] at hr
    simp [loadVar, ha', hs', hr]
  simp only [results, h]
  simp [hp', hv', asAddr, hrow]
/-! composites by value -/
theorem e_build {parts : Array (Nat × Operand)} {cs : List Value} (h : P.built t (parts.map fun (q : Nat × Operand) => (q.1, ρ q.2)).toList = some cs.toArray) :
    (execOp ρ { dst := d, op := .build t parts, type := ty, pos := ps, after := af, guard := g }).run P w = .ok (.value (.agg cs.toArray)) w := by
  have hr := run_build w t (parts.map fun (q : Nat × Operand) => (q.1, ρ q.2)) cs.toArray h
  show ((do pure (.value (← Instr.build t (parts.map fun (q : Nat × Operand) => (q.1, ρ q.2))))) : Sem Next).run P w = _
  simp [hr]
end
end Go.Proofs.Ytdhfiamgmokfbaa.E
