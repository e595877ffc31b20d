/- Arguments opened: slices in structs, structs. It proves no statement by itself. -/
import Derived.Test.YtcgcjklpilbndaaArgs2
import Derived.Test.YtcgcjklpilbndaaCat
set_option linter.unusedSimpArgs false
set_option linter.unusedVariables false
namespace Go.Proofs.Ytcgcjklpilbndaa.E
open Go Go.RowKit Go.WideShapes Go.ChangeShapes Go.Deep
/-- a slice and what it shows -/
structure Sl (α : Type) where
  A : Option Addr
  n : Nat
  c : Nat
  xs : List α
def slC {α : Type} (x : Sl α) : List Value := [.slice x.A x.n x.c]
section
variable {H : Type} {enc : TypeId × Value → H} {P : Program} {w : World} {base : Nat} {spare : Nat → Bool} {held : Bool} {α : Type}
def SlOk (w : World) (s : Nat) (c : α → List Value) (ok : α → Prop) (x : Sl α) : Prop := x.xs.length = x.n ∧ x.n ≤ x.c ∧ x.c ≤ maxLen ∧ (∀ y ∈ x.xs, ok y) ∧ Rd w s x.A x.n (x.xs.flatMap c)
theorem opens_slice {t e : TypeId} {s : Nat} {c : α → List Value} {ok : α → Prop} (ht : P.underlying t = some (.slice e)) (hs : P.cellsOf e = s) (ho : ∀ base spare held, Opens enc P w base spare held e c ok) (hl : ∀ x, ok x → (c x).length = s) :
    Opens enc P w base spare held t slC (SlOk w s c ok) := by
  intro fuel cs y hf
  rcases open_slice ht hf with ⟨e0, _⟩ | ⟨a, n, cap, m, k, D, Pl, e0, hb, h1, h2, hm, hx, hi⟩
  · exact ⟨⟨none, 0, 0, []⟩, e0, rfl, Nat.le_refl _, Nat.zero_le _, by simp, Rd.nil _ _ _⟩
  · have hle : n ≤ m := by rw [hm]; split <;> omega
    have key : ∀ n', n' ≤ n → ∃ xs : List α, xs.length = n' ∧ (∀ x ∈ xs, ok x) ∧ ∀ i x, xs[i]? = some x → ∀ j u, (c x)[j]? = some u → w.cell? (a.add (i * s + j)) = some u := by
      intro n'
      induction n' with
      | zero => intro _; exact ⟨[], rfl, by simp, by simp⟩
      | succ n' ih =>
        intro hn'
        obtain ⟨xs, e1, e2, e3⟩ := ih (by omega)
        obtain ⟨cs', hc', ht'⟩ := hi n' (by omega)
        rw [hs] at hc'
        obtain ⟨_, hcl, hat⟩ := World.cells?_some hc'
        obtain ⟨x, rfl, hox⟩ := ho _ _ _ _ _ _ ht'
        refine ⟨xs ++ [x], by simp [e1], fun y hy => ?_, fun i y hy j u hu => ?_⟩
        · rcases List.mem_append.1 hy with hy | hy
          · exact e2 y hy
          · rw [List.mem_singleton.1 hy]; exact hox
        · rcases Nat.lt_or_ge i n' with hi' | hi'
          · rw [List.getElem?_append_left (by omega)] at hy
            exact e3 i y hy j u hu
          · rw [List.getElem?_append_right (by omega)] at hy
            have hi0 : i - xs.length = 0 := by
              have := (List.getElem?_eq_some_iff.1 hy).1
              simp at this
              omega
            rw [hi0] at hy
            simp at hy
            subst hy
            have hj := (List.getElem?_eq_some_iff.1 hu).1
            have := hat j (by omega)
            rw [show i = n' by omega, ← E.add_add, this]
            exact hu
    obtain ⟨xs, e1, e2, e3⟩ := key n (Nat.le_refl _)
    refine ⟨⟨some a, n, cap, xs⟩, e0, e1, h1, h2, e2, ?_, fun j u hu => ⟨a, rfl, ?_⟩⟩
    · show (xs.flatMap c).length = n * s
      rw [flatMap_len (s := s) fun x hx => hl x (e2 x hx), e1]
    · have hj := (List.getElem?_eq_some_iff.1 hu).1
      change j < (xs.flatMap c).length at hj
      rw [flatMap_len (s := s) fun x hx => hl x (e2 x hx), e1] at hj
      have hs0 : 0 < s := by
        rcases Nat.eq_zero_or_pos s with h0 | h0
        · subst h0; omega
        · exact h0
      have hi' : j / s < n := (Nat.div_lt_iff_lt_mul hs0).2 hj
      have hx : xs[j / s]? = some (xs[j / s]'(by omega)) := List.getElem?_eq_getElem (by omega)
      have hjm : j % s < s := Nat.mod_lt _ hs0
      have hdm : j / s * s + j % s = j := by rw [Nat.mul_comm]; exact Nat.div_add_mod j s
      have := flatMap_at (s := s) (c := c) (fun x hx => hl x (e2 x hx)) hx hjm
      rw [hdm] at this
      change (xs.flatMap c)[j]? = some u at hu
      rw [this] at hu
      have h3 := e3 _ _ hx _ _ hu
      rwa [hdm] at h3
theorem opens_bytes {t e : TypeId} (ht : P.underlying t = some (.slice e)) (he : P.underlying e = some (.int .u8)) (hs : P.cellsOf e = 1) :
    Opens enc P w base spare held t slC (fun x : Sl Nat => x.xs.length = x.n ∧ x.n ≤ x.c ∧ x.c ≤ maxLen ∧ Bytes x.xs ∧ Rd w 1 x.A x.n (bv x.xs)) := by
  intro fuel cs y hf
  obtain ⟨x, e0, h1, h2, h3, h4, h5⟩ := opens_slice ht hs (fun _ _ _ => opens_u8 he) (fun _ _ => rfl) fuel cs y hf
  exact ⟨x, e0, h1, h2, h3, h4, by rw [bv_map] at h5; exact h5⟩
/-- the fields lie one behind the other -/
def contig (P : Program) : Nat → List Field → Nat → Bool
  | o, [], m => Nat.beq o m
  | o, f :: fs, m => Nat.beq f.offset o && contig P (o + P.cellsOf f.type) fs m
theorem contig_cut {m : Nat} {cs : List Value} (hl : cs.length = m) : ∀ (fs : List Field) (o : Nat), contig P o fs m = true → cs.drop o = (fs.map fun f => (cs.drop f.offset).take (P.cellsOf f.type)).flatten
  | [], o, h => by
    simp only [contig] at h
    have := Nat.eq_of_beq_eq_true h
    rw [List.map_nil, List.flatten_nil, List.drop_of_length_le (by omega)]
  | f :: fs, o, h => by
    simp only [contig, Bool.and_eq_true] at h
    have e1 := Nat.eq_of_beq_eq_true h.1
    rw [List.map_cons, List.flatten_cons, ← contig_cut hl fs _ h.2, e1, ← List.drop_drop, List.take_append_drop]
theorem trod_parts {t : TypeId} {fs : Array Field} {fuel : Nat} {cs : List Value} {y : DataW H × List MemPlace} (ht : P.underlying t = some (.struct fs)) (hc : contig P 0 fs.toList (P.cellsOf t) = true) (h : DataW.trod enc P w base spare held fuel t cs = some y) :
    cs = (fs.toList.map fun f => (cs.drop f.offset).take (P.cellsOf f.type)).flatten ∧ ∃ n, ∀ (i : Nat) (f : Field), fs[i]? = some f → ∃ z, DataW.trod enc P w base spare held n f.type ((cs.drop f.offset).take (P.cellsOf f.type)) = some z := by
  obtain ⟨xs, n, _, _, hlen, hxl, hf⟩ := DataW.trod_struct ht h
  refine ⟨?_, n, fun i f hi => ?_⟩
  · have := contig_cut (P := P) hlen fs.toList 0 hc
    rwa [List.drop_zero] at this
  · have h1 := hf i f hi
    have hlt : i < xs.length := by rw [hxl]; exact (Array.getElem?_eq_some_iff.1 hi).1
    rw [List.getElem?_eq_getElem hlt] at h1
    exact ⟨_, h1⟩
end
end Go.Proofs.Ytcgcjklpilbndaa.E
