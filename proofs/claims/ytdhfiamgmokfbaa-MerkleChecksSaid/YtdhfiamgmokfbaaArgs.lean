/- Arguments opened to cells: what a reading tells of them. It proves no statement by itself. -/
import Derived.Test.YtdhfiamgmokfbaaMore3
import Derived.OpenShut
import Derived.Deep.Slices
set_option linter.unusedSimpArgs false
set_option linter.unusedVariables false
namespace Go.Proofs.Ytdhfiamgmokfbaa.E
open Go Go.RowKit Go.WideShapes Go.ChangeShapes Go.Deep
section
variable {H : Type} {enc : TypeId × Value → H} {P : Program} {w : World} {base : Nat} {spare : Nat → Bool} {held : Bool} {α : Type}
/-- Whatever is read as of type t is laid as 'c' lays some x that is 'ok'. -/
def Opens (enc : TypeId × Value → H) (P : Program) (w : World) (base : Nat) (spare : Nat → Bool) (held : Bool) (t : TypeId) (c : α → List Value) (ok : α → Prop) : Prop :=
  ∀ (fuel : Nat) (cs : List Value) (y : DataW H × List MemPlace), DataW.trod enc P w base spare held fuel t cs = some y → ∃ x, cs = c x ∧ ok x
theorem u8_range {n : Int} (h : (Lit.int .u8 n).wf = true) : 0 ≤ n ∧ n < 256 := by
  have : 0 ≤ n ∧ n ≤ 255 := by simpa [Lit.wf, IntKind.min, IntKind.max, IntKind.signed, IntKind.bits] using h
  omega
theorem i64_range {n : Int} (h : (Lit.int .i64 n).wf = true) : -9223372036854775808 ≤ n ∧ n ≤ 9223372036854775807 := by
  simpa [Lit.wf, IntKind.min, IntKind.max, IntKind.signed, IntKind.bits] using h
theorem opens_u8 {t : TypeId} (ht : P.underlying t = some (.int .u8)) : Opens enc P w base spare held t (fun x : Nat => [Value.int .u8 (x : Int)]) (· < 256) := by
  intro fuel cs y h
  obtain ⟨n, rfl, _, hw⟩ := DataW.trod_int ht h
  have := u8_range hw
  exact ⟨n.toNat, by show [Value.int .u8 n] = [Value.int .u8 ((n.toNat : Nat) : Int)]; rw [Int.toNat_of_nonneg this.1], by omega⟩
theorem opens_i64 {t : TypeId} (ht : P.underlying t = some (.int .i64)) : Opens enc P w base spare held t (fun x : Int => [Value.int .i64 x]) (fun x => -9223372036854775808 ≤ x ∧ x ≤ 9223372036854775807) := by
  intro fuel cs y h
  obtain ⟨n, rfl, _, hw⟩ := DataW.trod_int ht h
  exact ⟨n, rfl, i64_range hw⟩
theorem opens_bool {t : TypeId} (ht : P.underlying t = some .bool) : Opens enc P w base spare held t (fun x : Bool => [Value.bool x]) (fun _ => True) := by
  intro fuel cs y h
  obtain ⟨n, rfl, _⟩ := DataW.trod_bool ht h
  exact ⟨n, rfl, trivial⟩
theorem chunks (s : Nat) (c : α → List Value) (Pk : List Value → α → Prop) : ∀ (n : Nat) (cs : List Value), cs.length = n * s → (∀ i, i < n → ∃ x, (cs.drop (i * s)).take s = c x ∧ Pk ((cs.drop (i * s)).take s) x) → ∃ xs : List α, xs.length = n ∧ cs = xs.flatMap c ∧ ∀ x ∈ xs, ∃ l, Pk l x
  | 0, cs, hl, _ => ⟨[], rfl, List.eq_nil_of_length_eq_zero (by simpa using hl), by simp⟩
  | n + 1, cs, hl, h => by
    obtain ⟨x, hx, hp⟩ := h 0 (by omega)
    simp only [Nat.zero_mul, List.drop_zero] at hx hp
    obtain ⟨xs, h1, h2, h3⟩ := chunks s c Pk n (cs.drop s) (by rw [List.length_drop, hl, Nat.add_mul]; omega) (fun i hi => by
      obtain ⟨y, hy, hq⟩ := h (i + 1) (by omega)
      refine ⟨y, ?_, ?_⟩
      · rw [List.drop_drop, show s + i * s = (i + 1) * s by rw [Nat.add_mul]; omega]; exact hy
      · rw [List.drop_drop, show s + i * s = (i + 1) * s by rw [Nat.add_mul]; omega]; exact hq)
    refine ⟨x :: xs, by simp [h1], ?_, ?_⟩
    · rw [List.flatMap_cons, ← h2, ← hx, List.take_append_drop]
    · intro y hy
      rcases List.mem_cons.1 hy with rfl | hy
      · exact ⟨_, hp⟩
      · exact h3 y hy
theorem opens_arr {t e : TypeId} {n s : Nat} {c : α → List Value} {ok : α → Prop} (ht : P.underlying t = some (.array n e)) (hs : P.cellsOf e = s) (hc : P.cellsOf t = n * s) (h : ∀ base spare held, Opens enc P w base spare held e c ok) :
    Opens enc P w base spare held t (fun xs : List α => xs.flatMap c) (fun xs => xs.length = n ∧ ∀ x ∈ xs, ok x) := by
  intro fuel cs y hy
  obtain ⟨xs, m, _, _, hlen, hxl, hi⟩ := DataW.trod_array ht hy
  rw [hs] at hi
  obtain ⟨ys, h1, h2, h3⟩ := chunks s c (fun _ x => ok x) n cs (by rw [hlen, hc]) (fun i hin => by
    have := hi i hin
    rw [List.getElem?_eq_getElem (by omega)] at this
    obtain ⟨x, hx, ho⟩ := h _ _ _ _ _ _ this
    exact ⟨x, hx, ho⟩)
  exact ⟨ys, h2, h1, fun x hx => (h3 x hx).elim fun _ h => h⟩
theorem bv_map (l : List Nat) : l.flatMap (fun x : Nat => [Value.int .u8 (x : Int)]) = bv l := by
  induction l with
  | nil => rfl
  | cons x l ih => rw [List.flatMap_cons, ih]; rfl
theorem iv_map (l : List Int) : l.flatMap (fun x : Int => [Value.int .i64 x]) = iv l := by
  induction l with
  | nil => rfl
  | cons x l ih => rw [List.flatMap_cons, ih]; rfl
def Bytes (l : List Nat) : Prop := ∀ x ∈ l, x < 256
theorem opens_sum {t e : TypeId} {n : Nat} (ht : P.underlying t = some (.array n e)) (he : P.underlying e = some (.int .u8)) (hs : P.cellsOf e = 1) (hc : P.cellsOf t = n) : Opens enc P w base spare held t bv (fun l => l.length = n ∧ Bytes l) := by
  intro fuel cs y h
  obtain ⟨x, e1, h1, h2⟩ := opens_arr ht hs (by rw [hc, Nat.mul_one]) (fun _ _ _ => opens_u8 he) fuel cs y h
  exact ⟨x, e1.trans (bv_map x), h1, h2⟩
/-- a slice that came in -/
theorem open_row {r : Reach} {b0 : Nat} {t e : TypeId} {s : Nat} {v : Value} {d : DataW H} {p : List MemPlace} {c : α → List Value} {ok : α → Prop} (ht : P.underlying t = some (.slice e)) (hs : P.cellsOf e = s) (hv : Value.okWide P w r b0 t v)
    (h : DataW.Trod enc P w base spare held t v d p) (ho : ∀ base spare held, Opens enc P w base spare held e c ok) (hl : ∀ x, ok x → (c x).length = s) :
    ∃ (A : Option Addr) (n cap : Nat) (xs : List α), v = .slice A n cap ∧ xs.length = n ∧ n ≤ cap ∧ cap ≤ maxLen ∧ (∀ x ∈ xs, ok x) ∧ Rd w s A n (xs.flatMap c) := by
  obtain ⟨A, n, cap, rfl⟩ := okWide_slice ht hv
  obtain ⟨fuel, hf⟩ := h
  rcases open_slice ht hf with ⟨e0, _⟩ | ⟨a, len, cap', m, k, D, Pl, e0, hb, h1, h2, hm, hx, hi⟩
  · simp [Value.cells] at e0
    obtain ⟨rfl, rfl, rfl⟩ := e0
    exact ⟨none, 0, 0, [], rfl, rfl, Nat.le_refl _, Nat.zero_le _, by simp, Rd.nil _ _ _⟩
  · simp [Value.cells] at e0
    obtain ⟨rfl, rfl, rfl⟩ := e0
    have hle : n ≤ m := by rw [hm]; split <;> omega
    have key : ∀ n', n' ≤ n → ∃ xs : List α, xs.length = n' ∧ (∀ x ∈ xs, ok x) ∧ ∀ i x, xs[i]? = some x → ∀ j u, (c x)[j]? = some u → w.cell? (a.add (i * s + j)) = some u := by
      intro n'
      induction n' with
      | zero => intro _; exact ⟨[], rfl, by simp, by simp⟩
      | succ n' ih =>
        intro hn'
        obtain ⟨xs, e1, e2, e3⟩ := ih (by omega)
        obtain ⟨cs', hc', ht'⟩ := hi n' (by omega)
        rw [hs] at hc'
        obtain ⟨_, hcl, hat⟩ := World.cells?_some hc'
        obtain ⟨x, rfl, hox⟩ := ho _ _ _ _ _ _ ht'
        refine ⟨xs ++ [x], by simp [e1], fun y hy => ?_, fun i y hy j u hu => ?_⟩
        · rcases List.mem_append.1 hy with hy | hy
          · exact e2 y hy
          · rw [List.mem_singleton.1 hy]; exact hox
        · rcases Nat.lt_or_ge i n' with hi' | hi'
          · rw [List.getElem?_append_left (by omega)] at hy
            exact e3 i y hy j u hu
          · rw [List.getElem?_append_right (by omega)] at hy
            have hi0 : i - xs.length = 0 := by
              have := (List.getElem?_eq_some_iff.1 hy).1
              simp at this
              omega
            rw [hi0] at hy
            simp at hy
            subst hy
            have hj := (List.getElem?_eq_some_iff.1 hu).1
            have := hat j (by omega)
            rw [show i = n' by omega, ← E.add_add, this]
            exact hu
    obtain ⟨xs, e1, e2, e3⟩ := key n (Nat.le_refl _)
    refine ⟨some a, n, cap, xs, rfl, e1, h1, h2, e2, ?_, fun j u hu => ⟨a, rfl, ?_⟩⟩
    · rw [flatMap_len (s := s) fun x hx => hl x (e2 x hx), e1]
    · have hj := (List.getElem?_eq_some_iff.1 hu).1
      rw [flatMap_len (s := s) fun x hx => hl x (e2 x hx), e1] at hj
      have hs0 : 0 < s := by
        rcases Nat.eq_zero_or_pos s with h0 | h0
        · subst h0; omega
        · exact h0
      have hi' : j / s < n := (Nat.div_lt_iff_lt_mul hs0).2 hj
      have hx : xs[j / s]? = some (xs[j / s]'(by omega)) := List.getElem?_eq_getElem (by omega)
      have hjm : j % s < s := Nat.mod_lt _ hs0
      have hdm : j / s * s + j % s = j := by rw [Nat.mul_comm]; exact Nat.div_add_mod j s
      have := flatMap_at (s := s) (c := c) (fun x hx => hl x (e2 x hx)) hx hjm
      rw [hdm] at this
      rw [this] at hu
      have h3 := e3 _ _ hx _ _ hu
      rwa [hdm] at h3
/-- an array or a struct by value -/
theorem open_val {r : Reach} {b0 : Nat} {t : TypeId} {v : Value} {d : DataW H} {p : List MemPlace} {c : α → List Value} {ok : α → Prop} (hagg : ∃ cs, v = .agg cs)
    (h : DataW.Trod enc P w base spare held t v d p) (ho : Opens enc P w base spare held t c ok) : ∃ x, v = .agg (c x).toArray ∧ ok x := by
  obtain ⟨cs, rfl⟩ := hagg
  obtain ⟨fuel, hf⟩ := h
  obtain ⟨x, e, hx⟩ := ho _ _ _ hf
  refine ⟨x, ?_, hx⟩
  rw [← e]
  rfl
end
end Go.Proofs.Ytdhfiamgmokfbaa.E
