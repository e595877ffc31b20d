/- Receipts as arguments. It proves no statement by itself. -/
import Derived.Test.YtcgcjklpilbndaaArgs3
import Derived.Test.YtcgcjklpilbndaaLaw12
set_option linter.unusedSimpArgs false
set_option linter.unusedVariables false
namespace Go.Proofs.Ytcgcjklpilbndaa
open Go Go.RowKit Go.WideShapes Go.ChangeShapes Go.Deep E
section
variable {H : Type} {enc : TypeId × Value → H} {w : World} {base : Nat} {spare : Nat → Bool} {held : Bool}
theorem opensSum : Opens enc Try.prog w base spare held 44 bv (fun l => l.length = 32 ∧ Bytes l) := opens_sum Try.underlying44 Try.underlying5 (by kernel_rfl) (by kernel_rfl)
theorem opensInt : Opens enc Try.prog w base spare held 3 (fun x : Int => [Value.int .i64 x]) (fun x => -9223372036854775808 ≤ x ∧ x ≤ 9223372036854775807) := opens_i64 Try.underlying3
theorem opensBytes : Opens enc Try.prog w base spare held 47 slC (fun x : Sl Nat => x.xs.length = x.n ∧ x.n ≤ x.c ∧ x.c ≤ maxLen ∧ Bytes x.xs ∧ Rd w 1 x.A x.n (bv x.xs)) := opens_bytes Try.underlying47 Try.underlying5 (by kernel_rfl)
def rcpV (r : Rcp) : List Value := cat (rcpC r)
theorem opensRcp : Opens enc Try.prog w base spare held 46 rcpV (fun r => r.ok ∧ r.byt) := by
  intro fuel cs y h
  obtain ⟨hcs, n, hf⟩ := trod_parts Try.underlying46 (by kernel_rfl) h
  obtain ⟨y0, g0⟩ := hf 0 _ rfl
  obtain ⟨y1, g1⟩ := hf 1 _ rfl
  obtain ⟨y2, g2⟩ := hf 2 _ rfl
  obtain ⟨y3, g3⟩ := hf 3 _ rfl
  obtain ⟨y4, g4⟩ := hf 4 _ rfl
  obtain ⟨a0, e0, _⟩ := opensInt _ _ _ g0
  obtain ⟨a1, e1, _⟩ := opensInt _ _ _ g1
  obtain ⟨a2, e2, _⟩ := opensInt _ _ _ g2
  obtain ⟨a3, e3, h3⟩ := opensSum _ _ _ g3
  obtain ⟨a4, e4, h4⟩ := opensSum _ _ _ g4
  exact ⟨⟨a0, a1, a2, a3, a4⟩, hcs.trans (congrArg List.flatten (congr (congrArg List.cons e0) (congr (congrArg List.cons e1) (congr (congrArg List.cons e2) (congr (congrArg List.cons e3) (congr (congrArg List.cons e4) rfl)))))), ⟨h3.1, h4.1⟩, h3.2, h4.2⟩
theorem opensSgd : Opens enc Try.prog w base spare held 54 (fun x : Rcp × Sl Nat => cat (sgdC x.1 x.2.A x.2.n x.2.c)) (fun x => (x.1.ok ∧ x.1.byt) ∧ x.2.xs.length = x.2.n ∧ x.2.n ≤ x.2.c ∧ x.2.c ≤ maxLen ∧ Bytes x.2.xs ∧ Rd w 1 x.2.A x.2.n (bv x.2.xs)) := by
  intro fuel cs y h
  obtain ⟨hcs, n, hf⟩ := trod_parts Try.underlying54 (by kernel_rfl) h
  obtain ⟨y0, g0⟩ := hf 0 _ rfl
  obtain ⟨y1, g1⟩ := hf 1 _ rfl
  obtain ⟨a0, e0, h0⟩ := opensRcp _ _ _ g0
  obtain ⟨a1, e1, h1⟩ := opensBytes _ _ _ g1
  have h2 : cs = [rcpV a0, slC a1].flatten := hcs.trans (congrArg List.flatten (congr (congrArg List.cons e0) (congr (congrArg List.cons e1) rfl)))
  exact ⟨⟨a0, a1⟩, h2.trans (by simp [rcpV, rcpC, sgdC, slC, cat]), h0, h1⟩
end
end Go.Proofs.Ytcgcjklpilbndaa
