/- More laws on single operations for walks: bytes of any number, the last bit, rows that are made. It proves no statement by itself. -/
import Derived.Test.YtdhfiamgmokfbaaMore3
import Derived.Test.YtdhfiamgmokfbaaTree
set_option linter.unusedSimpArgs false
set_option linter.unusedVariables false
namespace Go.Proofs.Ytdhfiamgmokfbaa.E
open Go Go.RowKit
section
variable {P : Program} {ρ : Operand → Value} {d : Option Tmp} {x y : Operand} {t ty yt : TypeId} {ps : String} {af : Array Edge} {g : Option (Nat × Bool)} {w w0 : World} {k : IntKind} {a b : Int} {m n : Nat} {ex : List Nat} {ks : List (Option Nat)} {pp : List (Option Obj → Prop)}
theorem wrap8_int (a : Int) : IntKind.u8.wrap a = (((a % 256).toNat : Nat) : Int) := by
  unfold IntKind.wrap
  simp [IntKind.signed, IntKind.bits]
  omega
theorem e_conv8i {u : TypeDesc} {s : TypeId} (hx : ρ x = .int k a) (hs : P.underlying s = some u) (hu : u ≠ .unsafePointer) (ht : P.underlying t = some (.int .u8)) : (execOp ρ { dst := d, op := .convert s t x, type := ty, pos := ps, after := af, guard := g }).run P w = .ok (.value (.int .u8 (((a % 256).toNat : Nat) : Int))) w :=
  e_conv_in hx hs hu ht (wrap8_int a)
theorem bits_and1 (a : Int) : bits .and .i64 a 1 = a % 2 := by
  have h : (BitVec.ofInt 64 a &&& BitVec.ofInt 64 1) = BitVec.ofNat 64 ((a % 2).toNat) := by
    apply BitVec.eq_of_toNat_eq
    rw [BitVec.toNat_and, BitVec.toNat_ofInt, BitVec.toNat_ofInt, BitVec.toNat_ofNat]
    have e1 : ((1 : Int) % ((2 ^ 64 : Nat) : Int)).toNat = 1 := by decide
    rw [e1, Nat.and_one_is_mod]
    have h1 : (a % 2).toNat < 2 := by omega
    rw [Nat.mod_eq_of_lt (by omega : (a % 2).toNat < 2 ^ 64)]
    have h3 : ((2 ^ 64 : Nat) : Int) = 18446744073709551616 := by decide
    rw [h3]
    omega
  show IntKind.i64.wrap ((BitVec.ofInt 64 a &&& BitVec.ofInt 64 1).toNat : Int) = _
  rw [h, BitVec.toNat_ofNat, Nat.mod_eq_of_lt (by omega), IntWalk.i64_in _ (by omega)]
  omega
theorem e_and1 (hx : ρ x = .int .i64 a) (hy : ρ y = .int .i64 1) : (execOp ρ { dst := d, op := .binOp .and t x y yt, type := ty, pos := ps, after := af, guard := g }).run P w = .ok (.value (.int .i64 (a % 2))) w :=
  e_int .and hx hy fun w => by
    show (Op.intBits .and .i64 a 1).run P w = _
    unfold Op.intBits
    exact congrArg (fun z => Result.ok (Value.int .i64 z) w) (bits_and1 a)
/-- a row that is made, empty, with room -/
theorem d_make0 {e : TypeId} {size bytes : Nat} (S : St w0 w ex ks pp) (ht : P.underlying t = some (.slice e)) (he : El P e size bytes) (n : Nat) {kl kc : IntKind} (hx : ρ x = .int kl 0) (hy : ρ y = .int kc (n : Int)) (hb : bytes * n ≤ 281474976710656) (h63 : n ≤ maxLen) :
    Does P ρ { dst := d, op := .makeSlice t x y, type := ty, pos := ps, after := af, guard := g } w fun v w' => ∃ b, v = .slice (at_ (some b)) 0 n ∧ St w0 w' ex (some b :: ks) (Rw e size 0 n [] :: pp) := by
  obtain ⟨⟨i, z, hi, hz, hsz, hby, hzs⟩, hpos⟩ := he
  have h9 : (n : Int) ≤ 9223372036854775807 := by unfold maxLen at h63; omega
  have hr := run_make (P := P) w t e i z ht hi hz kl kc 0 (n : Int) (Int.le_refl _) (by omega) (by rw [hby, ← Int.natCast_mul]; omega) h9
  refine .inl ⟨_, _, ?_, w.heap.size, rfl, S.alloc (.cells (madeCells z.cells (n * size)) e) _ ⟨by simp, .inr ⟨_, rfl, Nat.zero_le _, h63, by rw [size_madeCells], by simp⟩⟩⟩
  show ((do pure (.value (← Instr.makeSlice t (ρ x) (ρ y)))) : Sem Next).run P w = _
  rw [hx, hy]
  simp only [Sem.run_bind, hr, Result.andThen_ok, Sem.run_pure, Int.toNat_natCast, hsz]
  rfl
/-- a row of n zero values of one cell -/
theorem d_make1 {e : TypeId} {bytes : Nat} {z : Value} (S : St w0 w ex ks pp) (ht : P.underlying t = some (.slice e)) (he : El P e 1 bytes) (hz0 : Zv P e z) (h1 : z.cells = #[z]) (n : Nat) {kl kc : IntKind} (hx : ρ x = .int kl (n : Int)) (hy : ρ y = .int kc (n : Int)) (hb : bytes * n ≤ 281474976710656) (h63 : n ≤ maxLen) :
    Does P ρ { dst := d, op := .makeSlice t x y, type := ty, pos := ps, after := af, guard := g } w fun v w' => ∃ b, v = .slice (at_ (some b)) n n ∧ St w0 w' ex (some b :: ks) (Rw e 1 n n (List.replicate n z) :: pp) := by
  obtain ⟨⟨i, z', hi, hz, hsz, hby, hzs⟩, hpos⟩ := he
  have ez : z' = z := by
    have h := hz0 w
    simp [zeroValue, typeInfo, hi, hz] at h
    exact h
  subst ez
  have h9 : (n : Int) ≤ 9223372036854775807 := by unfold maxLen at h63; omega
  have hr := run_make (P := P) w t e i z' ht hi hz kl kc (n : Int) (n : Int) (by omega) (Int.le_refl _) (by rw [hby, ← Int.natCast_mul]; omega) h9
  refine .inl ⟨_, _, ?_, w.heap.size, rfl, S.alloc (.cells (madeCells z'.cells (n * 1)) e) _ ⟨by simp, .inr ⟨_, rfl, Nat.le_refl _, h63, by rw [size_madeCells], by rw [h1, toList_madeCells_one, Nat.mul_one]; simp⟩⟩⟩
  show ((do pure (.value (← Instr.makeSlice t (ρ x) (ρ y)))) : Sem Next).run P w = _
  rw [hx, hy]
  simp only [Sem.run_bind, hr, Result.andThen_ok, Sem.run_pure, Int.toNat_natCast, hsz]
  rfl
end
end Go.Proofs.Ytdhfiamgmokfbaa.E
