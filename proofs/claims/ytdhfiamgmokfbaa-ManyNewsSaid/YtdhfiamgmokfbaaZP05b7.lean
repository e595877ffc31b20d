/- Arguments opened: bytes, sums, texts. It proves no statement by itself. -/
import Derived.Test.YtdhfiamgmokfbaaZP05b5
set_option linter.unusedSimpArgs false
set_option linter.unusedVariables false
namespace Go.Proofs.Ytdhfiamgmokfbaa.E
open Go Go.RowKit Go.WideShapes Go.ChangeShapes Go.Deep
section
variable {H : Type} {enc : TypeId × Value → H} {P : Program} {w : World} {base : Nat} {spare : Nat → Bool} {held : Bool}
theorem okWide_array {r : Reach} {b0 : Nat} {t e : TypeId} {n : Nat} {v : Value} (ht : P.underlying t = some (.array n e)) (h : Value.okWide P w r b0 t v) : ∃ cs, v = .agg cs := by
  simp only [Value.okWide, ht] at h
  obtain ⟨cs, h1, _⟩ := h
  exact ⟨cs, h1⟩
theorem open_bytes {r : Reach} {b0 : Nat} {t e : TypeId} {v : Value} {d : DataW H} {p : List MemPlace} (ht : P.underlying t = some (.slice e)) (he : P.underlying e = some (.int .u8)) (hs : P.cellsOf e = 1) (hv : Value.okWide P w r b0 t v)
    (h : DataW.Trod enc P w base spare held t v d p) :
    ∃ (A : Option Addr) (n cap : Nat) (l : List Nat), v = .slice A n cap ∧ l.length = n ∧ n ≤ cap ∧ cap ≤ maxLen ∧ Bytes l ∧ Rd w 1 A n (bv l) := by
  obtain ⟨A, n, cap, l, h1, h2, h3, h4, h5, h6⟩ := open_row ht hs hv h (fun _ _ _ => opens_u8 he) (fun _ _ => rfl)
  exact ⟨A, n, cap, l, h1, h2, h3, h4, h5, by rw [bv_map] at h6; exact h6⟩
theorem open_sums {r : Reach} {b0 : Nat} {t e u : TypeId} {v : Value} {d : DataW H} {p : List MemPlace} (ht : P.underlying t = some (.slice e)) (he : P.underlying e = some (.array 32 u)) (hu : P.underlying u = some (.int .u8)) (hs : P.cellsOf u = 1) (hc : P.cellsOf e = 32) (hv : Value.okWide P w r b0 t v)
    (h : DataW.Trod enc P w base spare held t v d p) :
    ∃ (A : Option Addr) (n cap : Nat) (L : List (List Nat)), v = .slice A n cap ∧ L.length = n ∧ n ≤ cap ∧ cap ≤ maxLen ∧ All32 L ∧ (∀ l ∈ L, Bytes l) ∧ Rd w 32 A n (sv L) := by
  obtain ⟨A, n, cap, l, h1, h2, h3, h4, h5, h6⟩ := open_row (ok := fun l => l.length = 32 ∧ Bytes l) ht hc hv h (fun _ _ _ => opens_sum he hu hs hc) (fun _ h => by simpa using h.1)
  exact ⟨A, n, cap, l, h1, h2, h3, h4, fun x hx => (h5 x hx).1, fun x hx => (h5 x hx).2, h6⟩
theorem open_sum {r : Reach} {b0 : Nat} {t u : TypeId} {v : Value} {d : DataW H} {p : List MemPlace} (he : P.underlying t = some (.array 32 u)) (hu : P.underlying u = some (.int .u8)) (hs : P.cellsOf u = 1) (hc : P.cellsOf t = 32) (hv : Value.okWide P w r b0 t v)
    (h : DataW.Trod enc P w base spare held t v d p) : ∃ s : List Nat, v = .agg (bv s).toArray ∧ s.length = 32 ∧ Bytes s := by
  obtain ⟨s, h1, h2⟩ := open_val (r := r) (b0 := b0) (okWide_array he hv) h (opens_sum he hu hs hc)
  exact ⟨s, h1, h2.1, h2.2⟩
end
end Go.Proofs.Ytdhfiamgmokfbaa.E
