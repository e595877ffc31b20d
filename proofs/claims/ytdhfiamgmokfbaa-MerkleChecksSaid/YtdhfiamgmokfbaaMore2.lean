/- More laws for walks: lists of slices that are read. It proves no statement by itself. -/
import Derived.Test.YtdhfiamgmokfbaaBv
import Derived.Test.YtdhfiamgmokfbaaMore
set_option linter.unusedSimpArgs false
set_option linter.unusedVariables false
namespace Go.Proofs.Ytdhfiamgmokfbaa.E
open Go Go.RowKit
section
variable {w0 w w' : World} {ex ex' : List Nat} {ks ks' : List (Option Nat)} {ps ps' : List (Option Obj → Prop)}
theorem St.asRw {k : Option Nat} {e : TypeId} {s n c : Nat} {xs ys : List Value} (S : St w0 w ex (k :: ks) (Rw e s n c xs :: ps)) (h : xs = ys) : St w0 w ex (k :: ks) (Rw e s n c ys :: ps) := h ▸ S
theorem Rd.cell1 {n : Nat} {ad : Addr} {xs : List Value} (h : Rd w 1 (some ad) n xs) {j : Nat} {u : Value} (hu : xs[j]? = some u) : w.cell? (ad.add ((j : Int).toNat * 1)) = some u := by
  rw [Int.toNat_natCast, Nat.mul_one]
  exact h.cell hu
/-- A slice of slices of bytes. -/
def Parts (w : World) (A : Option Addr) (ls : List (List Nat)) : Prop :=
  ∃ vs : List Value, Rd w 1 A ls.length vs ∧ ∀ (j : Nat) (v : Value), vs[j]? = some v → ∃ Ai ci, v = .slice Ai (ls.getD j []).length ci ∧ Rd w 1 Ai (ls.getD j []).length (bv (ls.getD j []))
theorem Parts.below {A : Option Addr} {ls : List (List Nat)} (h : Parts w A ls) (hb : Below w.heap.size w w') : Parts w' A ls := by
  obtain ⟨vs, h1, h2⟩ := h
  refine ⟨vs, h1.below hb, fun j v hv => ?_⟩
  obtain ⟨Ai, ci, e, h3⟩ := h2 j v hv
  exact ⟨Ai, ci, e, h3.below hb⟩
theorem Parts.one {A A1 : Option Addr} {n1 c1 : Nat} {l1 : List Nat} (R : Rd w 1 A 1 [.slice A1 n1 c1]) (R1 : Rd w 1 A1 n1 (bv l1)) : Parts w A [l1] := by
  have e1 : l1.length = n1 := by simpa using R1.1
  subst e1
  refine ⟨_, R, fun j v hv => ?_⟩
  match j, hv with
  | 0, hv => cases hv; exact ⟨A1, c1, rfl, R1⟩
  | j + 1, hv => simp at hv
theorem Parts.two {A A1 A2 : Option Addr} {n1 c1 n2 c2 : Nat} {l1 l2 : List Nat} (R : Rd w 1 A 2 [.slice A1 n1 c1, .slice A2 n2 c2]) (R1 : Rd w 1 A1 n1 (bv l1)) (R2 : Rd w 1 A2 n2 (bv l2)) : Parts w A [l1, l2] := by
  have e1 : l1.length = n1 := by simpa using R1.1
  have e2 : l2.length = n2 := by simpa using R2.1
  subst e1 e2
  refine ⟨_, R, fun j v hv => ?_⟩
  match j, hv with
  | 0, hv => cases hv; exact ⟨A1, c1, rfl, R1⟩
  | 1, hv => cases hv; exact ⟨A2, c2, rfl, R2⟩
  | j + 2, hv => simp at hv
theorem Parts.three {A A1 A2 A3 : Option Addr} {n1 c1 n2 c2 n3 c3 : Nat} {l1 l2 l3 : List Nat} (R : Rd w 1 A 3 [.slice A1 n1 c1, .slice A2 n2 c2, .slice A3 n3 c3]) (R1 : Rd w 1 A1 n1 (bv l1)) (R2 : Rd w 1 A2 n2 (bv l2)) (R3 : Rd w 1 A3 n3 (bv l3)) : Parts w A [l1, l2, l3] := by
  have e1 : l1.length = n1 := by simpa using R1.1
  have e2 : l2.length = n2 := by simpa using R2.1
  have e3 : l3.length = n3 := by simpa using R3.1
  subst e1 e2 e3
  refine ⟨_, R, fun j v hv => ?_⟩
  match j, hv with
  | 0, hv => cases hv; exact ⟨A1, c1, rfl, R1⟩
  | 1, hv => cases hv; exact ⟨A2, c2, rfl, R2⟩
  | 2, hv => cases hv; exact ⟨A3, c3, rfl, R3⟩
  | j + 3, hv => simp at hv
/-- an array of bytes of its own, as a slice -/
theorem St.rdBytes (S : St w0 w ex ks ps) (i : Nat) {b : Nat} {l : List Nat} {t : TypeId} {n : Nat} (hk : ks[i]? = some (some b)) (hp : ps[i]? = some (Ex (bv l).toArray t)) (hn : l.length = n) : Rd w 1 (some ⟨b, 0, none⟩) n (bv l) :=
  S.rdEx i hk hp (by simp [hn])
end
section
variable {P : Program} {ρ : Operand → Value} {d : Option Tmp} {x y : Operand} {t ty yt : TypeId} {ps : String} {af : Array Edge} {g : Option (Nat × Bool)} {w : World} {a b : Int} {k : IntKind}
theorem e_max0 (hx : ρ x = .int k a) (hy : ρ y = .int k 0) : (execOp ρ { dst := d, op := .call { callee := .builtin .max, args := #[x, y], argTypes := #[t, yt] }, type := ty, pos := ps, after := af, guard := g }).run P w = .ok (.value (.int k ((a.toNat : Nat) : Int))) w := by
  rw [e_max hx hy, show (if (0 : Int) > a then (0 : Int) else a) = ((a.toNat : Nat) : Int) by split <;> omega]
end
end Go.Proofs.Ytdhfiamgmokfbaa.E
