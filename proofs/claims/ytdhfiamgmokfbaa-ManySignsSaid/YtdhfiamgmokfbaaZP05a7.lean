/- Own texts, one behind the other: walks and laws that the statement needs. They prove no statement by themselves. -/
import Derived.Test.YtdhfiamgmokfbaaZP05a5
import Derived.Test.YtdhfiamgmokfbaaZP05a2
import Derived.Test.YtdhfiamgmokfbaaZP05a6
/- Arguments opened: bytes, sums, texts. It proves no statement by itself. -/
set_option linter.unusedSimpArgs false
set_option linter.unusedVariables false
namespace Go.Proofs.Ytdhfiamgmokfbaa.E
open Go Go.RowKit Go.WideShapes Go.ChangeShapes Go.Deep
section
variable {H : Type} {enc : TypeId × Value → H} {P : Program} {w : World} {base : Nat} {spare : Nat → Bool} {held : Bool}
theorem okWide_array {r : Reach} {b0 : Nat} {t e : TypeId} {n : Nat} {v : Value} (ht : P.underlying t = some (.array n e)) (h : Value.okWide P w r b0 t v) : ∃ cs, v = .agg cs := by
  simp only [Value.okWide, ht] at h
  obtain ⟨cs, h1, _⟩ := h
  exact ⟨cs, h1⟩
theorem open_bytes {r : Reach} {b0 : Nat} {t e : TypeId} {v : Value} {d : DataW H} {p : List MemPlace} (ht : P.underlying t = some (.slice e)) (he : P.underlying e = some (.int .u8)) (hs : P.cellsOf e = 1) (hv : Value.okWide P w r b0 t v)
    (h : DataW.Trod enc P w base spare held t v d p) :
    ∃ (A : Option Addr) (n cap : Nat) (l : List Nat), v = .slice A n cap ∧ l.length = n ∧ n ≤ cap ∧ cap ≤ maxLen ∧ Bytes l ∧ Rd w 1 A n (bv l) := by
  obtain ⟨A, n, cap, l, h1, h2, h3, h4, h5, h6⟩ := open_row ht hs hv h (fun _ _ _ => opens_u8 he) (fun _ _ => rfl)
  exact ⟨A, n, cap, l, h1, h2, h3, h4, h5, by rw [bv_map] at h6; exact h6⟩
theorem open_sums {r : Reach} {b0 : Nat} {t e u : TypeId} {v : Value} {d : DataW H} {p : List MemPlace} (ht : P.underlying t = some (.slice e)) (he : P.underlying e = some (.array 32 u)) (hu : P.underlying u = some (.int .u8)) (hs : P.cellsOf u = 1) (hc : P.cellsOf e = 32) (hv : Value.okWide P w r b0 t v)
    (h : DataW.Trod enc P w base spare held t v d p) :
    ∃ (A : Option Addr) (n cap : Nat) (L : List (List Nat)), v = .slice A n cap ∧ L.length = n ∧ n ≤ cap ∧ cap ≤ maxLen ∧ All32 L ∧ (∀ l ∈ L, Bytes l) ∧ Rd w 32 A n (sv L) := by
  obtain ⟨A, n, cap, l, h1, h2, h3, h4, h5, h6⟩ := open_row (ok := fun l => l.length = 32 ∧ Bytes l) ht hc hv h (fun _ _ _ => opens_sum he hu hs hc) (fun _ h => by simpa using h.1)
  exact ⟨A, n, cap, l, h1, h2, h3, h4, fun x hx => (h5 x hx).1, fun x hx => (h5 x hx).2, h6⟩
theorem open_sum {r : Reach} {b0 : Nat} {t u : TypeId} {v : Value} {d : DataW H} {p : List MemPlace} (he : P.underlying t = some (.array 32 u)) (hu : P.underlying u = some (.int .u8)) (hs : P.cellsOf u = 1) (hc : P.cellsOf t = 32) (hv : Value.okWide P w r b0 t v)
    (h : DataW.Trod enc P w base spare held t v d p) : ∃ s : List Nat, v = .agg (bv s).toArray ∧ s.length = 32 ∧ Bytes s := by
  obtain ⟨s, h1, h2⟩ := open_val (r := r) (b0 := b0) (okWide_array he hv) h (opens_sum he hu hs hc)
  exact ⟨s, h1, h2.1, h2.2⟩
end
end Go.Proofs.Ytdhfiamgmokfbaa.E

/- Arguments opened: slices in structs, structs. It proves no statement by itself. -/
set_option linter.unusedSimpArgs false
set_option linter.unusedVariables false
namespace Go.Proofs.Ytdhfiamgmokfbaa.E
open Go Go.RowKit Go.WideShapes Go.ChangeShapes Go.Deep
/-- a slice and what it shows -/
structure Sl (α : Type) where
  A : Option Addr
  n : Nat
  c : Nat
  xs : List α
def slC {α : Type} (x : Sl α) : List Value := [.slice x.A x.n x.c]
section
variable {H : Type} {enc : TypeId × Value → H} {P : Program} {w : World} {base : Nat} {spare : Nat → Bool} {held : Bool} {α : Type}
def SlOk (w : World) (s : Nat) (c : α → List Value) (ok : α → Prop) (x : Sl α) : Prop := x.xs.length = x.n ∧ x.n ≤ x.c ∧ x.c ≤ maxLen ∧ (∀ y ∈ x.xs, ok y) ∧ Rd w s x.A x.n (x.xs.flatMap c)
theorem opens_slice {t e : TypeId} {s : Nat} {c : α → List Value} {ok : α → Prop} (ht : P.underlying t = some (.slice e)) (hs : P.cellsOf e = s) (ho : ∀ base spare held, Opens enc P w base spare held e c ok) (hl : ∀ x, ok x → (c x).length = s) :
    Opens enc P w base spare held t slC (SlOk w s c ok) := by
  intro fuel cs y hf
  rcases open_slice ht hf with ⟨e0, _⟩ | ⟨a, n, cap, m, k, D, Pl, e0, hb, h1, h2, hm, hx, hi⟩
  · exact ⟨⟨none, 0, 0, []⟩, e0, rfl, Nat.le_refl _, Nat.zero_le _, by simp, Rd.nil _ _ _⟩
  · have hle : n ≤ m := by rw [hm]; split <;> omega
    have key : ∀ n', n' ≤ n → ∃ xs : List α, xs.length = n' ∧ (∀ x ∈ xs, ok x) ∧ ∀ i x, xs[i]? = some x → ∀ j u, (c x)[j]? = some u → w.cell? (a.add (i * s + j)) = some u := by
      intro n'
      induction n' with
      | zero => intro _; exact ⟨[], rfl, by simp, by simp⟩
      | succ n' ih =>
        intro hn'
        obtain ⟨xs, e1, e2, e3⟩ := ih (by omega)
        obtain ⟨cs', hc', ht'⟩ := hi n' (by omega)
        rw [hs] at hc'
        obtain ⟨_, hcl, hat⟩ := World.cells?_some hc'
        obtain ⟨x, rfl, hox⟩ := ho _ _ _ _ _ _ ht'
        refine ⟨xs ++ [x], by simp [e1], fun y hy => ?_, fun i y hy j u hu => ?_⟩
        · rcases List.mem_append.1 hy with hy | hy
          · exact e2 y hy
          · rw [List.mem_singleton.1 hy]; exact hox
        · rcases Nat.lt_or_ge i n' with hi' | hi'
          · rw [List.getElem?_append_left (by omega)] at hy
            exact e3 i y hy j u hu
          · rw [List.getElem?_append_right (by omega)] at hy
            have hi0 : i - xs.length = 0 := by
              have := (List.getElem?_eq_some_iff.1 hy).1
              simp at this
              omega
            rw [hi0] at hy
            simp at hy
            subst hy
            have hj := (List.getElem?_eq_some_iff.1 hu).1
            have := hat j (by omega)
            rw [show i = n' by omega, ← E.add_add, this]
            exact hu
    obtain ⟨xs, e1, e2, e3⟩ := key n (Nat.le_refl _)
    refine ⟨⟨some a, n, cap, xs⟩, e0, e1, h1, h2, e2, ?_, fun j u hu => ⟨a, rfl, ?_⟩⟩
    · show (xs.flatMap c).length = n * s
      rw [flatMap_len (s := s) fun x hx => hl x (e2 x hx), e1]
    · have hj := (List.getElem?_eq_some_iff.1 hu).1
      change j < (xs.flatMap c).length at hj
      rw [flatMap_len (s := s) fun x hx => hl x (e2 x hx), e1] at hj
      have hs0 : 0 < s := by
        rcases Nat.eq_zero_or_pos s with h0 | h0
        · subst h0; omega
        · exact h0
      have hi' : j / s < n := (Nat.div_lt_iff_lt_mul hs0).2 hj
      have hx : xs[j / s]? = some (xs[j / s]'(by omega)) := List.getElem?_eq_getElem (by omega)
      have hjm : j % s < s := Nat.mod_lt _ hs0
      have hdm : j / s * s + j % s = j := by rw [Nat.mul_comm]; exact Nat.div_add_mod j s
      have := flatMap_at (s := s) (c := c) (fun x hx => hl x (e2 x hx)) hx hjm
      rw [hdm] at this
      change (xs.flatMap c)[j]? = some u at hu
      rw [this] at hu
      have h3 := e3 _ _ hx _ _ hu
      rwa [hdm] at h3
theorem opens_bytes {t e : TypeId} (ht : P.underlying t = some (.slice e)) (he : P.underlying e = some (.int .u8)) (hs : P.cellsOf e = 1) :
    Opens enc P w base spare held t slC (fun x : Sl Nat => x.xs.length = x.n ∧ x.n ≤ x.c ∧ x.c ≤ maxLen ∧ Bytes x.xs ∧ Rd w 1 x.A x.n (bv x.xs)) := by
  intro fuel cs y hf
  obtain ⟨x, e0, h1, h2, h3, h4, h5⟩ := opens_slice ht hs (fun _ _ _ => opens_u8 he) (fun _ _ => rfl) fuel cs y hf
  exact ⟨x, e0, h1, h2, h3, h4, by rw [bv_map] at h5; exact h5⟩
/-- the fields lie one behind the other -/
def contig (P : Program) : Nat → List Field → Nat → Bool
  | o, [], m => Nat.beq o m
  | o, f :: fs, m => Nat.beq f.offset o && contig P (o + P.cellsOf f.type) fs m
theorem contig_cut {m : Nat} {cs : List Value} (hl : cs.length = m) : ∀ (fs : List Field) (o : Nat), contig P o fs m = true → cs.drop o = (fs.map fun f => (cs.drop f.offset).take (P.cellsOf f.type)).flatten
  | [], o, h => by
    simp only [contig] at h
    have := Nat.eq_of_beq_eq_true h
    rw [List.map_nil, List.flatten_nil, List.drop_of_length_le (by omega)]
  | f :: fs, o, h => by
    simp only [contig, Bool.and_eq_true] at h
    have e1 := Nat.eq_of_beq_eq_true h.1
    rw [List.map_cons, List.flatten_cons, ← contig_cut hl fs _ h.2, e1, ← List.drop_drop, List.take_append_drop]
theorem trod_parts {t : TypeId} {fs : Array Field} {fuel : Nat} {cs : List Value} {y : DataW H × List MemPlace} (ht : P.underlying t = some (.struct fs)) (hc : contig P 0 fs.toList (P.cellsOf t) = true) (h : DataW.trod enc P w base spare held fuel t cs = some y) :
    cs = (fs.toList.map fun f => (cs.drop f.offset).take (P.cellsOf f.type)).flatten ∧ ∃ n, ∀ (i : Nat) (f : Field), fs[i]? = some f → ∃ z, DataW.trod enc P w base spare held n f.type ((cs.drop f.offset).take (P.cellsOf f.type)) = some z := by
  obtain ⟨xs, n, _, _, hlen, hxl, hf⟩ := DataW.trod_struct ht h
  refine ⟨?_, n, fun i f hi => ?_⟩
  · have := contig_cut (P := P) hlen fs.toList 0 hc
    rwa [List.drop_zero] at this
  · have h1 := hf i f hi
    have hlt : i < xs.length := by rw [hxl]; exact (Array.getElem?_eq_some_iff.1 hi).1
    rw [List.getElem?_eq_getElem hlt] at h1
    exact ⟨_, h1⟩
end
end Go.Proofs.Ytdhfiamgmokfbaa.E

/- Chapter 5's law on signatures, one leaf behind the other. It proves no statement by itself. -/
set_option linter.unusedSimpArgs false
set_option linter.unusedVariables false
set_option maxRecDepth 100000
set_option maxHeartbeats 2000000
namespace Go.Proofs.Ytdhfiamgmokfbaa
open Go Go.RowKit E
attribute [local irreducible] wpList seqH treeH
/-- a slice of bytes that came in -/
def BSl (w : World) (x : Sl Nat) : Prop := x.xs.length = x.n ∧ x.n ≤ x.c ∧ x.c ≤ maxLen ∧ Bytes x.xs ∧ Rd w 1 x.A x.n (bv x.xs)
abbrev slD {α : Type} : Sl α := ⟨none, 0, 0, []⟩
theorem sl_at {α : Type} : ∀ {X : List (Sl α)} {i : Nat}, i < X.length → (X.flatMap slC)[i]? = some (.slice (X.getD i slD).A (X.getD i slD).n (X.getD i slD).c)
  | a :: X, 0, _ => rfl
  | a :: X, i + 1, h => by
    have e : ((a :: X).flatMap slC) = Value.slice a.A a.n a.c :: X.flatMap slC := rfl
    rw [e, List.getElem?_cons_succ, sl_at (X := X) (by simpa using h)]
    simp
theorem getD_of {α : Type} {X : List (Sl α)} {p : Sl α → Prop} (h : ∀ y ∈ X, p y) {i : Nat} (hi : i < X.length) : p (X.getD i slD) := by
  rw [List.getD_eq_getElem?_getD, List.getElem?_eq_getElem hi]; exact h _ (List.getElem_mem hi)
theorem mn_sign_any (w0 : World) (hb : Nat) (k : Option Nat) (c : Nat) (s : List Nat) (x : Nat) (L : List (List Nat)) (A : Option Addr) (n0 c0 : Nat) (l : List Nat) (S0 : St w0 w0 (exOf [some hb, k]) [some hb, k] [keyE k L.length c s (x : Int), keyR L.length c L]) (hs : s.length = 32) (hL : All32 L) (hn : L.length ≤ 64) (hx : x ≤ L.length) (R : Rd w0 1 A n0 (bv l)) (oR : Off A n0 (exOf [some hb, k])) (hl : n0 ≤ 1099511000000) :
    Ret Try.prog 62 [.pointer (some ⟨hb, 0, none⟩), .slice A n0 c0] w0 fun v w' => ∃ k2 c2 o e, v = .tuple #[.slice (at_ k2) (List.length o) c2, .int .i64 e] ∧ (x < L.length → o = msig s L x l ∧ e = 0) ∧ (L.length ≤ x → o = [] ∧ e = 15) ∧ St w0 w' (exOf [some hb, k]) [k2, some hb, k] [Rw 5 1 (List.length o) c2 (bv o), keyE k L.length c s ((min (x + 1) L.length : Nat) : Int), keyR L.length c L] := by
  by_cases h : x < L.length
  · refine (mn_sign w0 hb k c s x L A n0 c0 l S0 hs hL hn h R oR hl).mono ?_
    rintro v w' ⟨k2, c2, rfl, T⟩
    refine ⟨k2, c2, _, _, rfl, fun _ => ⟨rfl, rfl⟩, fun h' => absurd h (by omega), ?_⟩
    rw [Nat.min_eq_left (by omega)]
    exact T
  · obtain rfl : x = L.length := by omega
    refine (mn_sign_used w0 hb k _ c s _ L A n0 c0 S0 hs hn rfl).mono ?_
    rintro v w' ⟨rfl, T⟩
    refine ⟨none, 0, [], _, rfl, fun h' => absurd h' h, fun _ => ⟨rfl, rfl⟩, ?_⟩
    rw [Nat.min_eq_right (by omega)]
    exact T.addNil 5 1
theorem l5leavesL (w0 : World) (s : List Nat) (n : Nat) (L : List (List Nat)) (hLe : L = mkeys s n) (hs : s.length = 32) (hn : n ≤ 64) :
     Ret Try.prog 60 [.agg (bv s).toArray, .int .i64 (n : Int)] w0 fun v w' => ∃ k c, v = .slice (at_ k) L.length c ∧ St w0 w' [] [k] [Rw 29 32 L.length c (sv L)] := by
  subst hLe; exact l5leaves w0 s n hs hn
theorem msigns_out (w0 : World) (s : List Nat) (n : Int) (A : Option Addr) (n0 c0 : Nat) (h : n < 1 ∨ 4 < n) :
    Ret Try.prog 14 [.agg (bv s).toArray, .int .i64 n, .slice A n0 c0] w0 fun v w' => v = .bool true ∧ Below w0.heap.size w0 w' := by
  refine enter Try.func14 rfl Try.ntmps14 (Nat.le_of_ble_eq_true rfl) ?_
  have S := St.init w0
  refine s_seq (s_plain ?_)
  refine p_does (d_boxA S rfl) rfl ?_
  rintro _ w ⟨b3, rfl, S⟩
  refine p_val (e_assign (v := .bool _) rfl) rfl ?_
  refine p_nil (x_then (s_seq (s_seq ?_)))
  refine s_cutK (ks := [some b3]) (ps := [Ex _ _]) [(1, .int _ _), (2, .slice _ _ _), (3, .pointer _)] ⟨rfl, rfl, rfl, trivial⟩ S (fun keep ks ps f' w' => ∃ u bb, f' = upds u ((24, .bool bb) :: keep) ∧ (bb = true ↔ (((4 : Int) < n) ∨ (n < (1 : Int)))) ∧ St w0 w' [] ks ps) ?_ ?_
  · refine s_plain ?_
    refine p_val (e_move (v := .int _ _) rfl) rfl ?_
    refine p_valB (e_gtr rfl rfl) rfl (fun hg20 => ?_) (fun hg20 => ?_)
    · refine p_val (e_move (v := .bool _) rfl) rfl ?_
      refine p_no rfl rfl rfl rfl rfl ?_
      refine p_no rfl rfl rfl rfl rfl ?_
      refine p_val (e_pick_t rfl rfl) rfl ?_
      exact p_nil (x_then ⟨_, rfl, _, _, upds_eq ⟨rfl, rfl, rfl, rfl, trivial⟩, by first | (simp only [decide_eq_true_eq, eq_self, true_iff, iff_true, iff_false, Bool.false_eq_true, false_iff, ge_iff_le, gt_iff_lt, true_and, and_true, false_and, and_false, true_or, or_true, false_or, or_false, not_true_eq_false, not_false_eq_true]; omega) | (simp; done) | omega | (simp_all; done), S⟩)
    · refine p_val (e_move (v := .bool _) rfl) rfl ?_
      refine pg_val rfl rfl rfl rfl rfl (e_move (v := .int _ _) rfl) ?_
      refine pg_val rfl rfl rfl rfl rfl (e_lss rfl rfl) ?_
      refine p_val (e_pick_f rfl rfl) rfl ?_
      exact p_nil (x_then ⟨_, rfl, _, _, upds_eq ⟨rfl, rfl, rfl, rfl, trivial⟩, by first | (simp only [decide_eq_true_eq, eq_self, true_iff, iff_true, iff_false, Bool.false_eq_true, false_iff, ge_iff_le, gt_iff_lt, true_and, and_true, false_and, and_false, true_or, or_true, false_or, or_false, not_true_eq_false, not_false_eq_true]; omega) | (simp; done) | omega | (simp_all; done), S⟩)
  · rintro f w ⟨u, b24, rfl, hb24, S⟩
    refine x_then ?_
    refine s_condb rfl (fun hc24 => ?_) (fun hc24 => ?_)
    · have hp24 : (((4 : Int) < n) ∨ (n < (1 : Int))) := hb24.1 hc24
      refine s_seq (s_plain ?_)
      refine p_does (d_call Try.func58 nm58 rfl rfl (l5awake _)) rfl ?_
      rintro _ w ⟨rfl, hB⟩
      have S := S.below hB
      refine p_val (e_assign (v := .bool _) rfl) rfl ?_
      refine p_nil (x_then (s_ret (x_then_ret ?_)))
      exact post1 (v := .bool _) Try.results14 rfl (⟨rfl, S.to_below⟩)
    · exact False.elim ((fun (hp24 : ¬ (((4 : Int) < n) ∨ (n < (1 : Int)))) => by omega) (fun h => by rw [hb24.2 h] at hc24; cases hc24))
theorem msigns_in (w0 : World) (s : List Nat) (n : Nat) (A : Option Addr) (n0 c0 : Nat) (X : List (Sl Nat)) (hs : s.length = 32) (h1 : 1 ≤ n) (h4 : n ≤ 4) (hX : X.length = n0) (hY : ∀ y ∈ X, BSl w0 y) (R : Rd w0 1 A n0 (X.flatMap slC)) :
    Ret Try.prog 14 [.agg (bv s).toArray, .int .i64 (n : Int), .slice A n0 c0] w0 fun v w' => v = .bool true ∧ Below w0.heap.size w0 w' := by
  refine enter Try.func14 rfl Try.ntmps14 (Nat.le_of_ble_eq_true rfl) ?_
  have S := St.init w0
  refine s_seq (s_plain ?_)
  refine p_does (d_boxA S rfl) rfl ?_
  rintro _ w ⟨b3, rfl, S⟩
  refine p_val (e_assign (v := .bool _) rfl) rfl ?_
  refine p_nil (x_then (s_seq (s_seq ?_)))
  refine s_cutK (ks := [some b3]) (ps := [Ex _ _]) [(1, .int _ _), (2, .slice _ _ _), (3, .pointer _)] ⟨rfl, rfl, rfl, trivial⟩ S (fun keep ks ps f' w' => ∃ u bb, f' = upds u ((24, .bool bb) :: keep) ∧ (bb = true ↔ (((4 : Int) < (n : Int)) ∨ ((n : Int) < (1 : Int)))) ∧ St w0 w' [] ks ps) ?_ ?_
  · refine s_plain ?_
    refine p_val (e_move (v := .int _ _) rfl) rfl ?_
    refine p_valB (e_gtr rfl rfl) rfl (fun hg20 => ?_) (fun hg20 => ?_)
    · refine p_val (e_move (v := .bool _) rfl) rfl ?_
      refine p_no rfl rfl rfl rfl rfl ?_
      refine p_no rfl rfl rfl rfl rfl ?_
      refine p_val (e_pick_t rfl rfl) rfl ?_
      exact p_nil (x_then ⟨_, rfl, _, _, upds_eq ⟨rfl, rfl, rfl, rfl, trivial⟩, by first | (simp only [decide_eq_true_eq, eq_self, true_iff, iff_true, iff_false, Bool.false_eq_true, false_iff, ge_iff_le, gt_iff_lt, true_and, and_true, false_and, and_false, true_or, or_true, false_or, or_false, not_true_eq_false, not_false_eq_true]; omega) | (simp; done) | omega | (simp_all; done), S⟩)
    · refine p_val (e_move (v := .bool _) rfl) rfl ?_
      refine pg_val rfl rfl rfl rfl rfl (e_move (v := .int _ _) rfl) ?_
      refine pg_val rfl rfl rfl rfl rfl (e_lss rfl rfl) ?_
      refine p_val (e_pick_f rfl rfl) rfl ?_
      exact p_nil (x_then ⟨_, rfl, _, _, upds_eq ⟨rfl, rfl, rfl, rfl, trivial⟩, by first | (simp only [decide_eq_true_eq, eq_self, true_iff, iff_true, iff_false, Bool.false_eq_true, false_iff, ge_iff_le, gt_iff_lt, true_and, and_true, false_and, and_false, true_or, or_true, false_or, or_false, not_true_eq_false, not_false_eq_true]; omega) | (simp; done) | omega | (simp_all; done), S⟩)
  · rintro f w ⟨u, b24, rfl, hb24, S⟩
    refine x_then ?_
    refine s_condb rfl (fun hc24 => ?_) (fun hc24 => ?_)
    · exact False.elim ((fun (hp24 : (((4 : Int) < (n : Int)) ∨ ((n : Int) < (1 : Int)))) => by omega) (hb24.1 hc24))
    · have hp24 : ¬ (((4 : Int) < (n : Int)) ∨ ((n : Int) < (1 : Int))) := fun h => by rw [hb24.2 h] at hc24; cases hc24
      refine s_skip (x_then (s_seq (s_plain ?_)))
      refine p_val (e_loadW 0 rfl ag29 sz29 S rfl rfl (by first | with_reducible assumption | (rw [bv_length]; with_reducible assumption) | (rw [List.size_toArray, bv_length]; with_reducible assumption) | (simp [cat, hs, length_mroot, Value.cells]; done) | (simp [cat, hs, length_mroot, Value.cells]; omega) | rfl)) rfl ?_
      refine p_val (e_move (v := .int _ _) rfl) rfl ?_
      refine p_does (d_call Try.func59 nm59 rfl rfl (mn_newL _ _ _ n rfl hs h1 (by omega))) rfl ?_
      rintro _ w ⟨b29, k29, c29, L, rfl, hLe, hLn, hLa, T⟩
      have S := S.merge T rfl
      refine p_val (e_move (v := .tuple _) rfl) rfl ?_
      refine p_val (e_extract rfl rfl) rfl ?_
      refine p_val (e_extract rfl rfl) rfl ?_
      refine p_val (e_assign (v := .pointer _) rfl) rfl ?_
      refine p_val (e_assign (v := .int _ _) rfl) rfl ?_
      refine p_nil (x_then (s_seq (s_seq ?_)))
      refine s_cutK (ks := [some b29, k29, some b3]) (ps := [Ex _ _, Rw _ _ _ _ _, Ex _ _]) [(1, .int _ _), (2, .slice _ _ _), (3, .pointer _), (7, .pointer _)] ⟨rfl, rfl, rfl, rfl, trivial⟩ S (fun keep ks ps f' w' => ∃ u bb, f' = upds u ((37, .bool bb) :: keep) ∧ (bb = true ↔ False) ∧ St w0 w' [] ks ps) ?_ ?_
      · refine s_plain ?_
        refine p_val (e_move (v := .pointer _) rfl) rfl ?_
        refine p_valb (e_eqlP rfl rfl Try.underlying91) rfl (fun hg33 => ?_) (fun hg33 => ?_)
        · exact False.elim (by simp at hg33)
        · refine p_val (e_move (v := .bool _) rfl) rfl ?_
          refine pg_val rfl rfl rfl rfl rfl (e_move (v := .int _ _) rfl) ?_
          refine pg_val rfl rfl rfl rfl rfl (e_neq rfl rfl) ?_
          refine p_val (e_pick_f rfl rfl) rfl ?_
          exact p_nil (x_then ⟨_, rfl, _, _, upds_eq ⟨rfl, rfl, rfl, rfl, rfl, trivial⟩, by first | (simp only [decide_eq_true_eq, eq_self, true_iff, iff_true, iff_false, Bool.false_eq_true, false_iff, ge_iff_le, gt_iff_lt, true_and, and_true, false_and, and_false, true_or, or_true, false_or, or_false, not_true_eq_false, not_false_eq_true]; omega) | (simp; done) | omega | (simp_all; done), S⟩)
      · rintro f w ⟨u, b37, rfl, hb37, S⟩
        refine x_then ?_
        refine s_condb rfl (fun hc37 => ?_) (fun hc37 => ?_)
        · have hp37 : False := hb37.1 hc37
          refine s_seq (s_plain ?_)
          refine p_val (e_assign (v := .bool _) rfl) rfl ?_
          refine p_nil (x_then (s_ret (x_then_ret ?_)))
          exact post1 (v := .bool _) Try.results14 rfl (hp37.elim)
        · have hp37 : ¬ False := fun h => by rw [hb37.2 h] at hc37; cases hc37
          refine s_skip (x_then (s_seq (s_plain ?_)))
          refine p_val (e_loadW 2 rfl ag29 sz29 S rfl rfl (by first | with_reducible assumption | (rw [bv_length]; with_reducible assumption) | (rw [List.size_toArray, bv_length]; with_reducible assumption) | (simp [cat, hs, length_mroot, Value.cells]; done) | (simp [cat, hs, length_mroot, Value.cells]; omega) | rfl)) rfl ?_
          refine p_val (e_move (v := .int _ _) rfl) rfl ?_
          refine p_does (d_call Try.func60 nm60 rfl rfl (l5leavesL _ _ _ L hLe hs (by omega))) rfl ?_
          rintro _ w ⟨k40, c40, rfl, T⟩
          have S := S.merge T rfl
          refine p_val (e_assign (v := .slice _ _ _) rfl) rfl ?_
          refine p_nil (x_then (s_seq (s_plain ?_)))
          refine p_val (e_move (v := .slice _ _ _) rfl) rfl ?_
          refine p_does (d_call Try.func42 nm42 rfl rfl (mk_root _ _ _ L (S.rdRw 0 rfl rfl) hLa (by omega))) rfl ?_
          rintro _ w ⟨rfl, hB⟩
          have S := S.below hB
          refine p_does (d_allocA S zvS) rfl ?_
          rintro _ w ⟨b10, rfl, S⟩
          refine p_does (d_storeW S 0 rfl rfl (by first | exact bv_one _ | exact sv_one _ | exact iv_one _ | with_reducible assumption | (refine One.mem ?_; repeat (first | exact One.bv _ | exact One.sv _ | exact One.iv _ | exact One.nil | exact One.cat0 | refine One.cat1 ?_ ?_ | refine One.cons rfl ?_ | refine One.append ?_ ?_))) sz29 (by first | with_reducible assumption | (rw [bv_length]; with_reducible assumption) | (rw [List.size_toArray, bv_length]; with_reducible assumption) | (simp [cat, hs, length_mroot, Value.cells]; done) | (simp [cat, hs, length_mroot, Value.cells]; omega) | rfl) rfl rfl (by first | with_reducible assumption | (rw [bv_length]; with_reducible assumption) | (rw [List.size_toArray, bv_length]; with_reducible assumption) | (simp [cat, hs, length_mroot, Value.cells]; done) | (simp [cat, hs, length_mroot, Value.cells]; omega) | rfl)) rfl ?_
          intro _ w S
          refine p_nil (x_then (s_seq (s_seq (s_plain ?_))))
          refine p_val (e_assign (v := .int _ _) rfl) rfl ?_
          refine p_nil (x_then (s_block ?_))
          refine s_loopK (α := Nat) (ks := [some b10, k40, some b29, k29, some b3]) (ps := [Ex _ _, Rw _ _ _ _ _, Ex _ _, Rw _ _ _ _ _, Ex _ _]) [(1, .int _ _), (2, .slice _ _ _), (3, .pointer _), (7, .pointer _), (9, .slice _ _ _), (10, .pointer _)] ⟨rfl, rfl, rfl, rfl, rfl, rfl, trivial⟩ S (fun keep ks ps g f' w' => ∃ u, f' = upds u ((11, .int .i64 (g : Int)) :: keep) ∧ St w0 w' [] [some b10, k40, some b29, k29, some b3] [(ps.getD 0 fun _ => True), (ps.getD 1 fun _ => True), keyE k29 L.length c29 s ((min g L.length : Nat) : Int), (ps.getD 3 fun _ => True), (ps.getD 4 fun _ => True)]) (fun g => n0 - g) (0) (⟨_, upds_eq ⟨rfl, rfl, rfl, rfl, rfl, rfl, rfl, trivial⟩, by { have e0 : ((min 0 L.length : Nat) : Int) = 0 := (by omega); rw [e0]; exact S }⟩) ?_
          rintro g f w ⟨u, rfl, S⟩
          refine s_seq (s_seq ?_)
          refine s_cutK (ks := [some b10, k40, some b29, k29, some b3]) (ps := [Ex _ _, Rw _ _ _ _ _, Ex _ _, Rw _ _ _ _ _, Ex _ _]) [(1, .int _ _), (2, .slice _ _ _), (3, .pointer _), (7, .pointer _), (9, .slice _ _ _), (10, .pointer _), (11, .int _ _)] ⟨rfl, rfl, rfl, rfl, rfl, rfl, rfl, trivial⟩ S (fun keep ks ps f' w' => ∃ u bb, f' = upds u ((50, .bool bb) :: keep) ∧ (bb = true ↔ (((g : Int) < ((n0 : Nat) : Int)) ∧ ((g : Int) < (6 : Int)))) ∧ St w0 w' [] ks ps) ?_ ?_
          · refine s_plain ?_
            refine p_val (e_move (v := .int _ _) rfl) rfl ?_
            refine p_val (e_move (v := .slice _ _ _) rfl) rfl ?_
            refine p_val (e_len rfl Try.underlying90) rfl ?_
            refine p_valB (e_lss rfl rfl) rfl (fun hg46 => ?_) (fun hg46 => ?_)
            · refine p_val (e_move (v := .bool _) rfl) rfl ?_
              refine pg_val rfl rfl rfl rfl rfl (e_move (v := .int _ _) rfl) ?_
              refine pg_val rfl rfl rfl rfl rfl (e_lss rfl rfl) ?_
              refine p_val (e_pick_t rfl rfl) rfl ?_
              exact p_nil (x_then ⟨_, rfl, _, _, upds_eq ⟨rfl, rfl, rfl, rfl, rfl, rfl, rfl, rfl, trivial⟩, by first | (simp only [decide_eq_true_eq, eq_self, true_iff, iff_true, iff_false, Bool.false_eq_true, false_iff, ge_iff_le, gt_iff_lt, true_and, and_true, false_and, and_false, true_or, or_true, false_or, or_false, not_true_eq_false, not_false_eq_true]; omega) | (simp; done) | omega | (simp_all; done), S⟩)
            · refine p_val (e_move (v := .bool _) rfl) rfl ?_
              refine p_no rfl rfl rfl rfl rfl ?_
              refine p_no rfl rfl rfl rfl rfl ?_
              refine p_val (e_pick_f rfl rfl) rfl ?_
              exact p_nil (x_then ⟨_, rfl, _, _, upds_eq ⟨rfl, rfl, rfl, rfl, rfl, rfl, rfl, rfl, trivial⟩, by first | (simp only [decide_eq_true_eq, eq_self, true_iff, iff_true, iff_false, Bool.false_eq_true, false_iff, ge_iff_le, gt_iff_lt, true_and, and_true, false_and, and_false, true_or, or_true, false_or, or_false, not_true_eq_false, not_false_eq_true]; omega) | (simp; done) | omega | (simp_all; done), S⟩)
          · rintro f w ⟨u, b50, rfl, hb50, S⟩
            refine x_then ?_
            refine s_condb rfl (fun hc50 => ?_) (fun hc50 => ?_)
            · have hp50 : (((g : Int) < ((n0 : Nat) : Int)) ∧ ((g : Int) < (6 : Int))) := hb50.1 hc50
              refine s_skip (x_then (s_seq ?_))
              refine s_cutK (ks := [some b10, k40, some b29, k29, some b3]) (ps := [Ex _ _, Rw _ _ _ _ _, Ex _ _, Rw _ _ _ _ _, Ex _ _]) [(1, .int _ _), (2, .slice _ _ _), (3, .pointer _), (7, .pointer _), (9, .slice _ _ _), (10, .pointer _), (11, .int _ _)] ⟨rfl, rfl, rfl, rfl, rfl, rfl, rfl, trivial⟩ S (fun keep ks ps f' w' => ∃ u, f' = upds u (keep) ∧ St w0 w' [] [some b10, k40, some b29, k29, some b3] [(ps.getD 0 fun _ => True), (ps.getD 1 fun _ => True), keyE k29 L.length c29 s ((min (g + 1) L.length : Nat) : Int), (ps.getD 3 fun _ => True), (ps.getD 4 fun _ => True)]) ?_ ?_
              · refine s_block (s_seq (s_plain ?_))
                have hi : g < X.length := by omega
                have hy := getD_of hY hi
                obtain ⟨y, hye⟩ : ∃ y, y = X.getD g slD := ⟨_, rfl⟩
                rw [← hye] at hy
                obtain ⟨hy1, hy2, hy3, hy4, hy5⟩ := hy
                have RT : Rd w0 1 y.A (min y.n 200) (bv (y.xs.take (min y.n 200))) := Rd.take_bv hy5 (Nat.min_le_left _ _)
                obtain ⟨t, ht⟩ : ∃ t, t = y.xs.take (min y.n 200) := ⟨_, rfl⟩
                rw [← ht] at RT
                refine p_val (e_move (v := .slice _ _ _) rfl) rfl ?_
                refine p_val (e_move (v := .int _ _) rfl) rfl ?_
                refine p_val (e_ixR (S.rdOld R rfl) (by decide) rfl rfl Try.underlying90 sz33 (by omega)) rfl ?_
                refine p_val (e_loadR1i rfl ag33 (S.rdOld R rfl) (by rw [Int.toNat_natCast, sl_at hi, ← hye])) rfl ?_
                refine p_does (d_call Try.func61 nm61 rfl rfl (l5cut _ _ _ _ (by omega))) rfl ?_
                rintro _ w ⟨rfl, hB⟩
                have S := S.below hB
                refine p_val (e_assign (v := .slice _ _ _) rfl) rfl ?_
                refine p_nil (x_then (s_seq (s_plain ?_)))
                refine p_val (e_move (v := .pointer _) rfl) rfl ?_
                refine p_val (e_move (v := .slice _ _ _) rfl) rfl ?_
                refine p_does (d_call Try.func62 nm62 rfl rfl (mn_sign_any _ _ _ _ s (min g L.length) L _ _ _ t (S.hr [2, 3] rfl) hs hLa (by omega) (Nat.min_le_right _ _) (S.rdOld RT rfl) (S.offOld [2, 3] RT (by decide) Off.nil rfl) (by omega))) rfl ?_
                rintro _ w ⟨k61, c61, o, e61, rfl, ho1, ho2, T⟩
                have S := (S.call [2, 3] T rfl).pk [0, 3, 4, 1, 2, 7] rfl
                rw [show min (min g L.length + 1) L.length = min (g + 1) L.length by omega] at S
                refine p_val (e_move (v := .tuple _) rfl) rfl ?_
                refine p_val (e_extract rfl rfl) rfl ?_
                refine p_val (e_extract rfl rfl) rfl ?_
                refine p_val (e_assign (v := .slice _ _ _) rfl) rfl ?_
                refine p_val (e_assign (v := .int _ _) rfl) rfl ?_
                refine p_nil (x_then (s_seq (s_seq (s_plain ?_))))
                refine p_val (e_move (v := .int _ _) rfl) rfl ?_
                refine p_val (e_move (v := .int _ _) rfl) rfl ?_
                refine p_val (e_geq rfl rfl) rfl ?_
                refine p_nil (x_then ?_)
                refine s_cond rfl (fun hc66 => ?_) (fun hc66 => ?_)
                · obtain ⟨rfl, rfl⟩ := ho2 (by omega)
                  refine s_seq (s_seq ?_)
                  refine s_cutK (ks := [k61, some b10, k40, some b29, k29, some b3]) (ps := [Rw _ _ _ _ _, Ex _ _, Rw _ _ _ _ _, Ex _ _, Rw _ _ _ _ _, Ex _ _]) [(1, .int _ _), (2, .slice _ _ _), (3, .pointer _), (7, .pointer _), (9, .slice _ _ _), (10, .pointer _), (11, .int _ _)] ⟨rfl, rfl, rfl, rfl, rfl, rfl, rfl, trivial⟩ S (fun keep ks ps f' w' => ∃ u bb, f' = upds u ((78, .bool bb) :: keep) ∧ (bb = true ↔ False) ∧ St w0 w' [] ks ps) ?_ ?_
                  · refine s_plain ?_
                    refine p_val (e_move (v := .slice _ _ _) rfl) rfl ?_
                    refine p_val (e_len rfl Try.underlying33) rfl ?_
                    refine p_valB (e_neq rfl rfl) rfl (fun hg69 => ?_) (fun hg69 => ?_)
                    · exact False.elim (by simp at hg69)
                    · refine p_val (e_move (v := .bool _) rfl) rfl ?_
                      refine pg_val rfl rfl rfl rfl rfl (e_move (v := .int _ _) rfl) ?_
                      refine pg_valB rfl rfl rfl rfl rfl (e_neq rfl rfl) (fun hg72 => ?_) (fun hg72 => ?_)
                      · exact False.elim (hg72 rfl)
                      · refine p_val (e_pick_f rfl rfl) rfl ?_
                        refine p_val (e_move (v := .bool _) rfl) rfl ?_
                        refine pg_val rfl rfl rfl rfl rfl (e_move (v := .pointer _) rfl) ?_
                        refine pg_does rfl rfl rfl rfl rfl (d_call Try.func63 nm63 rfl rfl (mn_left _ _ _ _ _ _ _ _ (S.hr [3, 4] rfl) (by first | with_reducible assumption | (rw [bv_length]; with_reducible assumption) | (rw [List.size_toArray, bv_length]; with_reducible assumption) | (simp [cat, hs, length_mroot, Value.cells]; done) | (simp [cat, hs, length_mroot, Value.cells]; omega) | rfl) (by omega) (by omega))) ?_
                        rintro _ w ⟨rfl, T⟩
                        have S := (S.call [3, 4] T rfl).pk [2, 3, 4, 0, 1, 7] rfl
                        refine pg_val rfl rfl rfl rfl rfl (e_neq rfl rfl) ?_
                        refine p_val (e_pick_f rfl rfl) rfl ?_
                        exact p_nil (x_then ⟨_, rfl, _, _, upds_eq ⟨rfl, rfl, rfl, rfl, rfl, rfl, rfl, rfl, trivial⟩, by first | (simp only [decide_eq_true_eq, eq_self, true_iff, iff_true, iff_false, Bool.false_eq_true, false_iff, ge_iff_le, gt_iff_lt, true_and, and_true, false_and, and_false, true_or, or_true, false_or, or_false, not_true_eq_false, not_false_eq_true]; omega) | (simp; done) | omega | (simp_all; done), S⟩)
                  · rintro f w ⟨u, b78, rfl, hb78, S⟩
                    refine x_then ?_
                    refine s_condb rfl (fun hc78 => ?_) (fun hc78 => ?_)
                    · exact False.elim ((fun (hp78 : False) => hp78) (hb78.1 hc78))
                    · have hp78 : ¬ False := fun h => by rw [hb78.2 h] at hc78; cases hc78
                      refine s_skip (x_then (s_exit (x_then_exit (x_in_same ?_))))
                      exact x_then ⟨_, rfl, _, upds_eq ⟨rfl, rfl, rfl, rfl, rfl, rfl, rfl, trivial⟩, S.pk [1, 2, 3, 4, 5] rfl⟩
                · obtain ⟨ho, rfl⟩ := ho1 (by omega)
                  have hgm : min g L.length = g := by omega
                  rw [hgm] at ho
                  refine s_skip (x_then (s_seq (s_plain ?_)))
                  have hpl := mpath_len L (g : Int)
                  have hma := mpath_all L (g : Int)
                  refine p_val (e_move (v := .int _ _) rfl) rfl ?_
                  refine p_val (e_move (v := .slice _ _ _) rfl) rfl ?_
                  refine p_does (d_call Try.func41 nm41 rfl rfl (mk_path _ _ _ _ _ (S.rdRw 2 rfl rfl) (by with_reducible assumption) (by omega))) rfl ?_
                  rintro _ w ⟨k82, c82, rfl, T⟩
                  have S := S.merge T rfl
                  refine p_val (e_move (v := .tuple _) rfl) rfl ?_
                  refine p_val (e_extract rfl rfl) rfl ?_
                  refine p_val (e_extract rfl rfl) rfl ?_
                  refine p_val (e_assign (v := .slice _ _ _) rfl) rfl ?_
                  refine p_val (e_assign (v := .bool _) rfl) rfl ?_
                  refine p_nil (x_then (s_seq (s_plain ?_)))
                  refine p_does (d_allocA S zs98) rfl ?_
                  rintro _ w ⟨b17, rfl, S⟩
                  have S := pen_new S
                  refine p_nil (x_then (s_seq (s_plain ?_)))
                  refine p_val (e_move (v := .int _ _) rfl) rfl ?_
                  refine p_val (e_move (v := .int _ _) rfl) rfl ?_
                  refine p_val (e_move (v := .slice _ _ _) rfl) rfl ?_
                  refine p_val (e_len rfl Try.underlying24) rfl ?_
                  refine p_does (d_litI S Try.underlying128 sz3 zv3 rfl (l := [_, _, _]) rfl rfl (by decide)) rfl ?_
                  rintro _ w ⟨b89, rfl, S⟩
                  refine p_does (d_call Try.func64 nm64 rfl rfl (pen_nums _ _ _ _ _ _ _ _ _ (S.hr [1, 2] rfl) (S.rdRw 0 rfl rfl) (S.offRow 0 [1, 2] rfl rfl) (by first | omega | (simp only [List.length_append, List.length_cons, List.length_nil, bv_length, hs, length_mroot, Value.cells]; omega) | (simp [cat, hs, length_mroot, Value.cells]; omega)) (by decide))) rfl ?_
                  rintro _ w ⟨rfl, k90, c90, T⟩
                  have S := (S.call [1, 2] T rfl).pk [2, 0, 1, 5, 6, 7, 8, 9, 10, 11] rfl
                  refine p_nil (x_then (s_seq (s_seq (s_plain ?_))))
                  refine p_val (e_assign (v := .int _ _) rfl) rfl ?_
                  refine p_nil (x_then (s_block ?_))
                  refine s_loopK (α := Nat) (ks := [some b89, some b17, k90, k82, k61, some b10, k40, some b29, k29, some b3]) (ps := [Rw _ _ _ _ _, Ex _ _, Rw _ _ _ _ _, Rw _ _ _ _ _, Rw _ _ _ _ _, Ex _ _, Rw _ _ _ _ _, Ex _ _, Rw _ _ _ _ _, Ex _ _]) [(1, .int _ _), (2, .slice _ _ _), (3, .pointer _), (7, .pointer _), (9, .slice _ _ _), (10, .pointer _), (11, .int _ _), (12, .slice _ _ _), (13, .slice _ _ _), (14, .int _ _), (15, .slice _ _ _), (17, .pointer _)] ⟨rfl, rfl, rfl, rfl, rfl, rfl, rfl, rfl, rfl, rfl, rfl, rfl, trivial⟩ S (fun keep ks ps j f' w' => ∃ u Kp17 Cp17 q, f' = upds u ((18, .int .i64 (j : Int)) :: keep) ∧ (j ≤ (mpath L (g : Int)).length) ∧ (q = msigB s L g j) ∧ St w0 w' [] [some b89, some b17, Kp17, k82, k61, some b10, k40, some b29, k29, some b3] [(ps.getD 0 fun _ => True), penE Kp17 Cp17 q, Rw 5 1 ((List.length q)) Cp17 (bv q), (ps.getD 3 fun _ => True), (ps.getD 4 fun _ => True), (ps.getD 5 fun _ => True), (ps.getD 6 fun _ => True), (ps.getD 7 fun _ => True), (ps.getD 8 fun _ => True), (ps.getD 9 fun _ => True)]) (fun j => (mpath L (g : Int)).length - j) (0) (⟨_, _, _, _, upds_eq ⟨rfl, rfl, rfl, rfl, rfl, rfl, rfl, rfl, rfl, rfl, rfl, rfl, rfl, trivial⟩, by first | omega | rfl | with_reducible assumption | (simp; done) | (simp; omega), by simp [msigB, hLn], S⟩) ?_
                  rintro j f w ⟨u, Kp17, Cp17, q, rfl, hj, rfl, S⟩
                  have hql := msigB_len (s := s) hj
                  refine s_seq (s_seq (s_plain ?_))
                  refine p_val (e_move (v := .int _ _) rfl) rfl ?_
                  refine p_val (e_move (v := .slice _ _ _) rfl) rfl ?_
                  refine p_val (e_len rfl Try.underlying24) rfl ?_
                  refine p_val (e_lss rfl rfl) rfl ?_
                  refine p_nil (x_then ?_)
                  refine s_cond rfl (fun hc94 => ?_) (fun hc94 => ?_)
                  · refine s_skip (x_then (s_seq (s_block (s_plain ?_))))
                    have hg32 : ((mpath L (g : Int)).getD (j : Int).toNat []).length = 32 := hma.getD (by omega)
                    refine p_val (e_move (v := .slice _ _ _) rfl) rfl ?_
                    refine p_val (e_move (v := .int _ _) rfl) rfl ?_
                    refine p_val (e_ixR (S.rdRw 3 rfl rfl) (by decide) rfl rfl Try.underlying24 sz29 (by omega)) rfl ?_
                    refine p_val (e_loadRA rfl ag29 sz29 (by decide) (Rd.sumA (S.rdRw 3 rfl rfl) (by with_reducible assumption) (by omega))) rfl ?_
                    refine p_does (d_call Try.func65 nm65 rfl rfl (pen_sum _ _ _ _ _ _ (S.hr [1, 2] rfl) (by first | with_reducible assumption | (rw [bv_length]; with_reducible assumption) | (rw [List.size_toArray, bv_length]; with_reducible assumption) | (simp [cat, hs, length_mroot, Value.cells]; done) | (simp [cat, hs, length_mroot, Value.cells]; omega) | rfl) (by first | omega | (simp only [List.length_append, List.length_cons, List.length_nil, bv_length, hs, length_mroot, Value.cells]; omega) | (simp [cat, hs, length_mroot, Value.cells]; omega)))) rfl ?_
                    rintro _ w ⟨rfl, k101, c101, T⟩
                    have S := (S.call [1, 2] T rfl).pk [2, 0, 1, 5, 6, 7, 8, 9, 10, 11] rfl
                    refine p_nil (x_in (x_then (s_plain ?_)))
                    refine p_val (e_move (v := .int _ _) rfl) rfl ?_
                    refine p_val (e_add64 rfl rfl (by omega)) rfl ?_
                    refine p_val (e_assign (v := .int _ _) rfl) rfl ?_
                    refine p_nil ?_
                    refine x_round (j + 1) _ rfl ⟨_, _, _, _, upds_eq ⟨rfl, rfl, rfl, rfl, rfl, rfl, rfl, rfl, rfl, rfl, rfl, rfl, rfl, trivial⟩, by first | omega | rfl | with_reducible assumption | (simp; done) | (simp; omega), by unfold msigB; rw [take_getD (by omega), List.flatten_append, ← List.append_assoc]; simp, S⟩ (by omega)
                  · refine s_exit (x_then_exit (x_then_exit (x_in_same (x_then (s_seq (s_plain ?_))))))
                    refine p_val (e_sl_arr rfl Try.underlying29 sz5) rfl ?_
                    refine p_val (e_move (v := .int _ _) rfl) rfl ?_
                    refine p_val (e_conv8i rfl Try.underlying3 (by simp) Try.underlying5) rfl ?_
                    refine p_does (d_litB S Try.underlying33 sz5 zv5 rfl (l := [_]) rfl rfl (by decide)) rfl ?_
                    rintro _ w ⟨b105, rfl, S⟩
                    refine p_does (d_lit1 S Try.underlying90 sz33 zv33 rfl (vs := [.slice _ _ _, .slice _ _ _]) rfl rfl rfl (by decide)) rfl ?_
                    rintro _ w ⟨b106, rfl, S⟩
                    refine p_does (d_call Try.func19 nm19 rfl rfl (Ret.mono (R' := fun v w' => v = .agg (bv (mseed s (g : Int))).toArray ∧ Below _ _ w') (join_calls _ _ _ _ [_, _] (Parts.two (S.rdRw 0 rfl rfl) (S.rdBytes 11 rfl rfl (by first | with_reducible assumption | (rw [bv_length]; with_reducible assumption) | (rw [List.size_toArray, bv_length]; with_reducible assumption) | (simp [cat, hs, length_mroot, Value.cells]; done) | (simp [cat, hs, length_mroot, Value.cells]; omega) | rfl)) (S.rdRw 1 rfl rfl)) (by simp [joinB, len4, hs]) (by simp)) (fun v w' ⟨hv, hB⟩ => ⟨by rw [hv]; unfold mseed; rfl, hB⟩))) rfl ?_
                    rintro _ w ⟨rfl, hB⟩
                    have S := S.below hB
                    refine p_val (e_move (v := .slice _ _ _) rfl) rfl ?_
                    refine p_does (d_call Try.func29 nm29 rfl rfl (lsign_calls _ _ _ _ _ _ (length_mseed _ _) (S.rdOld RT rfl) (by omega))) rfl ?_
                    rintro _ w ⟨k109, c109, rfl, T⟩
                    have S := S.merge T rfl
                    have hnum := num_len ((lsig (mseed s (g : Int)) t).length : Int)
                    have hsg := length_lsig (mseed s (g : Int)) t
                    refine p_does (d_call Try.func66 nm66 rfl rfl (pen_text _ _ _ _ _ _ _ _ _ (S.hr [4, 5] rfl) (S.rdRw 0 rfl rfl) (S.offRow 0 [4, 5] rfl rfl) (by first | omega | (simp only [List.length_append, List.length_cons, List.length_nil, bv_length, hs, length_mroot, Value.cells]; omega) | (simp [cat, hs, length_mroot, Value.cells]; omega)))) rfl ?_
                    rintro _ w ⟨rfl, k110, c110, T⟩
                    have S := (S.call [4, 5] T rfl).pk [2, 3, 4, 5, 0, 1, 8, 9, 10, 11, 12, 13, 14] rfl
                    refine p_nil (x_then (s_seq ?_))
                    obtain rfl : j = (mpath L (g : Int)).length := by omega
                    have e9 : msigB s L g (mpath L (g : Int)).length ++ num ((lsig (mseed s (g : Int)) t).length : Int) ++ lsig (mseed s (g : Int)) t = o := by { rw [ho]; unfold msig; rw [hsg]; rfl }
                    rw [e9] at S
                    have hob : Bytes o := by rw [ho]; exact msig_bytes _ _ _ _
                    have hol : o.length ≤ 4200 + 32 * L.length := by rw [ho]; exact msig_len _ _ _ _
                    have hsb := sig_back (s := s) (L := L) (x := g) (l := t) (by omega) (by omega)
                    have hlf : (if (rSig o).e = 0 then (rSig o).a else -1) = (g : Int) := by rw [ho, hsb]; rfl
                    have hver : mver (mroot L) t o := by rw [ho]; exact mver_sign (by omega) (by omega) (by rw [hLe]; exact mkeys_getD s n g (by omega))
                    refine s_cutK (ks := [k109, some b106, some b105, some b89, some b17, k110, k82, k61, some b10, k40, some b29, k29, some b3]) (ps := [Rw _ _ _ _ _, Rw _ _ _ _ _, Rw _ _ _ _ _, Rw _ _ _ _ _, Ex _ _, Rw _ _ _ _ _, Rw _ _ _ _ _, Rw _ _ _ _ _, Ex _ _, Rw _ _ _ _ _, Ex _ _, Rw _ _ _ _ _, Ex _ _]) [(1, .int _ _), (2, .slice _ _ _), (3, .pointer _), (7, .pointer _), (9, .slice _ _ _), (10, .pointer _), (11, .int _ _)] ⟨rfl, rfl, rfl, rfl, rfl, rfl, rfl, trivial⟩ S (fun keep ks ps f' w' => ∃ u bb, f' = upds u ((151, .bool bb) :: keep) ∧ (bb = true ↔ False) ∧ St w0 w' [] ks ps) ?_ ?_
                    · refine s_drawTK (ks := [k109, some b106, some b105, some b89, some b17, k110, k82, k61, some b10, k40, k29, some b3]) (ps := [Rw _ _ _ _ _, Rw _ _ _ _ _, Rw _ _ _ _ _, Rw _ _ _ _ _, Ex _ _, Rw _ _ _ _ _, Rw _ _ _ _ _, Rw _ _ _ _ _, Ex _ _, Rw _ _ _ _ _, Rw _ _ _ _ _, Ex _ _]) (S.pk [0, 1, 2, 3, 4, 5, 6, 7, 8, 9, 11, 12] rfl) (.sq [(true, 0), (true, 1), (true, 2), (true, 3), (true, 4), (false, 5)] (.re (.sq [(true, 6), (true, 7), (true, 8), (true, 9), (true, 10), (true, 12), (false, 11), (true, 13), (true, 14), (true, 15), (true, 16), (true, 17), (true, 18), (false, 19), (true, 20), (true, 21), (true, 22), (true, 23), (true, 25), (true, 26), (false, 24), (true, 27), (true, 28), (true, 29), (true, 30), (true, 31), (true, 33), (true, 34), (true, 35)] (.fork 32 (.sq [(false, 36), (false, 37), (false, 38), (true, 39), (true, 40)] .stop) (.fork 36 (.fork 32 (.sq [(false, 37), (false, 38), (true, 39), (true, 40)] .stop) (.fork 37 (.sq [(false, 32), (false, 38), (true, 39), (true, 40)] .stop) .none_)) .none_))))) [] [] mixed (by kernel_rfl) (by repeat (first | exact Calm.post _ _ _ | refine Calm.then ?_ _ | refine Calm.inB ?_ _)) (fun hS => ?_)
                      have S := S.drew
                      refine t_sq ?_
                      refine q_val (fun w hS => e_move (v := .int _ _) rfl) rfl hS ?_
                      refine q_valB (fun w hS => e_neq rfl rfl) rfl hS (fun hg112 => ?_) (fun hg112 => ?_)
                      · exact False.elim (hg112 rfl)
                      · refine q_val (fun w hS => e_move (v := .bool _) rfl) rfl hS ?_
                        refine qg_val rfl rfl rfl rfl rfl (fun w hS => e_move (v := .slice _ _ _) rfl) hS ?_
                        refine qg_val rfl rfl rfl rfl rfl (fun w hS => e_bytesStr rfl Try.underlying33 Try.underlying5 Try.underlying9 ((hS.rdRw 7 rfl rfl))) hS ?_
                        refine qg_does rfl rfl rfl rfl rfl (d_call Try.func67 nm67 rfl rfl (pen_bytes _ _ _ _ _ (S.exact_ 4 rfl rfl) (S.rdRw 5 rfl rfl) (by first | omega | (simp only [List.length_append, List.length_cons, List.length_nil, bv_length, hs, length_mroot, Value.cells]; omega) | (simp [cat, hs, length_mroot, Value.cells]; omega)))) ?_
                        rintro _ w ⟨k116, c116, rfl, T⟩
                        have S := S.merge T rfl
                        have hS := S.pk [1, 2, 3, 4, 5, 6, 7, 8, 9, 10, 12, 13] rfl
                        refine ⟨hS, ?_⟩
                        refine q_nil ?_
                        refine t_reK (ks := [k109, some b106, some b105, some b89, some b17, k110, k82, k61, some b10, k40, k29, some b3, k116]) (ps := [Rw _ _ _ _ _, Rw _ _ _ _ _, Rw _ _ _ _ _, Rw _ _ _ _ _, Ex _ _, Rw _ _ _ _ _, Rw _ _ _ _ _, Rw _ _ _ _ _, Ex _ _, Rw _ _ _ _ _, Rw _ _ _ _ _, Ex _ _, Rw _ _ _ _ _]) (S.pk [1, 2, 3, 4, 5, 6, 7, 8, 9, 10, 12, 13, 0] rfl) (fun w' h => h.pk [0, 1, 2, 3, 4, 5, 6, 7, 8, 9, 10, 11] rfl) (fun hS => ?_)
                        refine t_sq ?_
                        refine qg_val rfl rfl rfl rfl rfl (fun w hS => e_bytesStr rfl Try.underlying33 Try.underlying5 Try.underlying9 ((hS.rdRw 12 rfl rfl))) hS ?_
                        refine qg_valB rfl rfl rfl rfl rfl (fun w hS => e_neqT rfl rfl (hob) (hob)) hS (fun hg118 => ?_) (fun hg118 => ?_)
                        · exact False.elim (hg118 rfl)
                        · refine q_val (fun w hS => e_pick_f rfl rfl) rfl hS ?_
                          refine q_val (fun w hS => e_move (v := .bool _) rfl) rfl hS ?_
                          refine qg_val rfl rfl rfl rfl rfl (fun w hS => e_move (v := .slice _ _ _) rfl) hS ?_
                          refine qg_val rfl rfl rfl rfl rfl (fun w hS => e_move (v := .int _ _) rfl) hS ?_
                          refine qg_does rfl rfl rfl rfl rfl (d_call Try.func68 nm68 rfl rfl (mn_leaf _ _ _ _ (S.rdRw 8 rfl rfl) (hob) (S.capRw 8 rfl rfl) (by first | omega | (simp only [List.length_append, List.length_cons, List.length_nil, bv_length, hs, length_mroot, Value.cells]; omega) | (simp [cat, hs, length_mroot, Value.cells]; omega)))) ?_
                          rintro _ w ⟨rfl, hB⟩
                          have S := S.below hB
                          have hS := S.pk [1, 2, 3, 4, 5, 6, 7, 8, 9, 10, 12, 13, 0] rfl
                          refine ⟨hS, ?_⟩
                          refine qg_valB rfl rfl rfl rfl rfl (fun w hS => e_neq rfl rfl) hS (fun hg124 => ?_) (fun hg124 => ?_)
                          · exact False.elim (hg124 hlf)
                          · refine q_val (fun w hS => e_pick_f rfl rfl) rfl hS ?_
                            refine q_val (fun w hS => e_move (v := .bool _) rfl) rfl hS ?_
                            refine qg_val rfl rfl rfl rfl rfl (fun w hS => e_loadW 8 rfl ag29 sz29 hS rfl rfl (by first | with_reducible assumption | (rw [bv_length]; with_reducible assumption) | (rw [List.size_toArray, bv_length]; with_reducible assumption) | (simp [cat, hs, length_mroot, Value.cells]; done) | (simp [cat, hs, length_mroot, Value.cells]; omega) | rfl)) hS ?_
                            refine qg_val rfl rfl rfl rfl rfl (fun w hS => e_move (v := .slice _ _ _) rfl) hS ?_
                            refine qg_val rfl rfl rfl rfl rfl (fun w hS => e_move (v := .slice _ _ _) rfl) hS ?_
                            refine qg_does rfl rfl rfl rfl rfl (d_call Try.func69 nm69 rfl rfl (mn_verify _ _ _ _ _ _ _ _ _ (by first | with_reducible assumption | (rw [bv_length]; with_reducible assumption) | (rw [List.size_toArray, bv_length]; with_reducible assumption) | (simp [cat, hs, length_mroot, Value.cells]; done) | (simp [cat, hs, length_mroot, Value.cells]; omega) | rfl) (S.rdOld RT rfl) (by omega) (S.rdRw 8 rfl rfl) (hob) (S.capRw 8 rfl rfl) (by first | omega | (simp only [List.length_append, List.length_cons, List.length_nil, bv_length, hs, length_mroot, Value.cells]; omega) | (simp [cat, hs, length_mroot, Value.cells]; omega)))) ?_
                            rintro _ w ⟨rfl, hB⟩
                            have S := S.below hB
                            have hS := S.pk [1, 2, 3, 4, 5, 6, 7, 8, 9, 10, 12, 13, 0] rfl
                            refine ⟨hS, ?_⟩
                            rcases Classical.em (mver (mroot L) t o) with hg130 | hg130
                            · rw [decide_eq_true hg130]
                              refine qg_val rfl rfl rfl rfl rfl (fun w hS => e_not rfl) hS ?_
                              refine q_val (fun w hS => e_pick_f rfl rfl) rfl hS ?_
                              refine q_val (fun w hS => e_move (v := .bool _) rfl) rfl hS ?_
                              refine qg_val rfl rfl rfl rfl rfl (fun w hS => e_move (v := .pointer _) rfl) hS ?_
                              refine qg_val rfl rfl rfl rfl rfl (fun w hS => e_move (v := .int _ _) rfl) hS ?_
                              refine qg_val rfl rfl rfl rfl rfl (fun w hS => e_add64 rfl rfl (by omega)) hS ?_
                              refine qg_does rfl rfl rfl rfl rfl (d_call Try.func70 nm70 rfl rfl (mn_next _ _ _ _ _ _ _ _ (S.hr [11, 12] rfl) (by first | with_reducible assumption | (rw [bv_length]; with_reducible assumption) | (rw [List.size_toArray, bv_length]; with_reducible assumption) | (simp [cat, hs, length_mroot, Value.cells]; done) | (simp [cat, hs, length_mroot, Value.cells]; omega) | rfl))) ?_
                              rintro _ w ⟨rfl, T⟩
                              have S := (S.call [11, 12] T rfl).pk [2, 3, 4, 5, 6, 7, 8, 9, 10, 11, 12, 0, 1, 15] rfl
                              have hS := S.pk [1, 2, 3, 4, 5, 6, 7, 8, 9, 10, 12, 13, 0] rfl
                              refine ⟨hS, ?_⟩
                              refine qg_valB rfl rfl rfl rfl rfl (fun w hS => e_neq rfl rfl) hS (fun hg138 => ?_) (fun hg138 => ?_)
                              · exact False.elim (by omega)
                              · refine q_val (fun w hS => e_pick_f rfl rfl) rfl hS ?_
                                refine q_val (fun w hS => e_move (v := .bool _) rfl) rfl hS ?_
                                refine qg_val rfl rfl rfl rfl rfl (fun w hS => e_loadW 11 rfl ag29 sz29 hS rfl rfl (by first | with_reducible assumption | (rw [bv_length]; with_reducible assumption) | (rw [List.size_toArray, bv_length]; with_reducible assumption) | (simp [cat, hs, length_mroot, Value.cells]; done) | (simp [cat, hs, length_mroot, Value.cells]; omega) | rfl)) hS ?_
                                refine qg_val rfl rfl rfl rfl rfl (fun w hS => e_move (v := .int _ _) rfl) hS ?_
                                refine qg_val rfl rfl rfl rfl rfl (fun w hS => e_sl_arr rfl Try.underlying29 sz5) hS ?_
                                refine qg_val rfl rfl rfl rfl rfl (fun w hS => e_move (v := .int _ _) rfl) hS ?_
                                refine qg_val rfl rfl rfl rfl rfl (fun w hS => e_conv8i rfl Try.underlying3 (by simp) Try.underlying5) hS ?_
                                refine q_nil ?_
                                refine t_fork ?_ ?_
                                · refine qg_does rfl rfl rfl rfl rfl (d_call Try.func71 nm71 rfl rfl (mn_seed _ _ _ (by first | with_reducible assumption | (rw [bv_length]; with_reducible assumption) | (rw [List.size_toArray, bv_length]; with_reducible assumption) | (simp [cat, hs, length_mroot, Value.cells]; done) | (simp [cat, hs, length_mroot, Value.cells]; omega) | rfl))) ?_
                                  rintro _ w ⟨rfl, hB⟩
                                  have S := S.below hB
                                  have hS := S.pk [1, 2, 3, 4, 5, 6, 7, 8, 9, 10, 12, 13, 0] rfl
                                  refine ⟨hS, ?_⟩
                                  refine q_nil ?_
                                  refine t_sq ?_
                                  refine qg_does rfl rfl rfl rfl rfl (d_litB S Try.underlying33 sz5 zv5 rfl (l := [_]) rfl rfl (by decide)) ?_
                                  rintro _ w ⟨y147, rfl, S⟩
                                  have hS := S.pk [2, 3, 4, 5, 6, 7, 8, 9, 10, 11, 13, 14, 1] rfl
                                  refine ⟨hS, ?_⟩
                                  refine qg_does rfl rfl rfl rfl rfl (d_lit1 S Try.underlying90 sz33 zv33 rfl (vs := [.slice _ _ _, .slice _ _ _]) rfl rfl rfl (by decide)) ?_
                                  rintro _ w ⟨y148, rfl, S⟩
                                  have hS := S.pk [3, 4, 5, 6, 7, 8, 9, 10, 11, 12, 14, 15, 2] rfl
                                  refine ⟨hS, ?_⟩
                                  refine qg_does rfl rfl rfl rfl rfl (d_call Try.func19 nm19 rfl rfl (Ret.mono (R' := fun v w' => v = .agg (bv (mseed s (g : Int))).toArray ∧ Below _ _ w') (join_calls _ _ _ _ [_, _] (Parts.two (S.rdRw 0 rfl rfl) (S.rdBytes 15 rfl rfl (by first | with_reducible assumption | (rw [bv_length]; with_reducible assumption) | (rw [List.size_toArray, bv_length]; with_reducible assumption) | (simp [cat, hs, length_mroot, Value.cells]; done) | (simp [cat, hs, length_mroot, Value.cells]; omega) | rfl)) (S.rdRw 1 rfl rfl)) (by simp [joinB, len4, hs]) (by simp)) (fun v w' ⟨hv, hB⟩ => ⟨by rw [hv]; unfold mseed; rfl, hB⟩))) ?_
                                  rintro _ w ⟨rfl, hB⟩
                                  have S := S.below hB
                                  have hS := S.pk [3, 4, 5, 6, 7, 8, 9, 10, 11, 12, 14, 15, 2] rfl
                                  refine ⟨hS, ?_⟩
                                  refine qg_val rfl rfl rfl rfl rfl (fun w hS => EqT.sumN eq29 gd29 rfl rfl (length_mseed _ _) (length_mseed _ _)) hS ?_
                                  refine q_val (fun w hS => e_pick_f rfl rfl) rfl hS ?_
                                  refine q_nil ?_
                                  refine t_stop ?_
                                  exact p_nil (x_then ⟨_, rfl, _, _, upds_eq ⟨rfl, rfl, rfl, rfl, rfl, rfl, rfl, rfl, trivial⟩, by first | (simp only [decide_eq_true_eq, eq_self, true_iff, iff_true, iff_false, Bool.false_eq_true, false_iff, ge_iff_le, gt_iff_lt, true_and, and_true, false_and, and_false, true_or, or_true, false_or, or_false, not_true_eq_false, not_false_eq_true]; omega) | (simp; done) | omega | (simp_all; done), S.pk [3, 4, 5, 6, 7, 8, 9, 10, 11, 12, 13, 14, 15] rfl⟩)
                                · refine t_fork ?_ ?_
                                  · refine qg_does rfl rfl rfl rfl rfl (d_litB S Try.underlying33 sz5 zv5 rfl (l := [_]) rfl rfl (by decide)) ?_
                                    rintro _ w ⟨y147, rfl, S⟩
                                    have hS := S.pk [2, 3, 4, 5, 6, 7, 8, 9, 10, 11, 13, 14, 1] rfl
                                    refine ⟨hS, ?_⟩
                                    refine q_nil ?_
                                    refine t_fork ?_ ?_
                                    · refine qg_does rfl rfl rfl rfl rfl (d_call Try.func71 nm71 rfl rfl (mn_seed _ _ _ (by first | with_reducible assumption | (rw [bv_length]; with_reducible assumption) | (rw [List.size_toArray, bv_length]; with_reducible assumption) | (simp [cat, hs, length_mroot, Value.cells]; done) | (simp [cat, hs, length_mroot, Value.cells]; omega) | rfl))) ?_
                                      rintro _ w ⟨rfl, hB⟩
                                      have S := S.below hB
                                      have hS := S.pk [2, 3, 4, 5, 6, 7, 8, 9, 10, 11, 13, 14, 1] rfl
                                      refine ⟨hS, ?_⟩
                                      refine q_nil ?_
                                      refine t_sq ?_
                                      refine qg_does rfl rfl rfl rfl rfl (d_lit1 S Try.underlying90 sz33 zv33 rfl (vs := [.slice _ _ _, .slice _ _ _]) rfl rfl rfl (by decide)) ?_
                                      rintro _ w ⟨y148, rfl, S⟩
                                      have hS := S.pk [3, 4, 5, 6, 7, 8, 9, 10, 11, 12, 14, 15, 2] rfl
                                      refine ⟨hS, ?_⟩
                                      refine qg_does rfl rfl rfl rfl rfl (d_call Try.func19 nm19 rfl rfl (Ret.mono (R' := fun v w' => v = .agg (bv (mseed s (g : Int))).toArray ∧ Below _ _ w') (join_calls _ _ _ _ [_, _] (Parts.two (S.rdRw 0 rfl rfl) (S.rdBytes 15 rfl rfl (by first | with_reducible assumption | (rw [bv_length]; with_reducible assumption) | (rw [List.size_toArray, bv_length]; with_reducible assumption) | (simp [cat, hs, length_mroot, Value.cells]; done) | (simp [cat, hs, length_mroot, Value.cells]; omega) | rfl)) (S.rdRw 1 rfl rfl)) (by simp [joinB, len4, hs]) (by simp)) (fun v w' ⟨hv, hB⟩ => ⟨by rw [hv]; unfold mseed; rfl, hB⟩))) ?_
                                      rintro _ w ⟨rfl, hB⟩
                                      have S := S.below hB
                                      have hS := S.pk [3, 4, 5, 6, 7, 8, 9, 10, 11, 12, 14, 15, 2] rfl
                                      refine ⟨hS, ?_⟩
                                      refine qg_val rfl rfl rfl rfl rfl (fun w hS => EqT.sumN eq29 gd29 rfl rfl (length_mseed _ _) (length_mseed _ _)) hS ?_
                                      refine q_val (fun w hS => e_pick_f rfl rfl) rfl hS ?_
                                      refine q_nil ?_
                                      refine t_stop ?_
                                      exact p_nil (x_then ⟨_, rfl, _, _, upds_eq ⟨rfl, rfl, rfl, rfl, rfl, rfl, rfl, rfl, trivial⟩, by first | (simp only [decide_eq_true_eq, eq_self, true_iff, iff_true, iff_false, Bool.false_eq_true, false_iff, ge_iff_le, gt_iff_lt, true_and, and_true, false_and, and_false, true_or, or_true, false_or, or_false, not_true_eq_false, not_false_eq_true]; omega) | (simp; done) | omega | (simp_all; done), S.pk [3, 4, 5, 6, 7, 8, 9, 10, 11, 12, 13, 14, 15] rfl⟩)
                                    · refine t_fork ?_ ?_
                                      · refine qg_does rfl rfl rfl rfl rfl (d_lit1 S Try.underlying90 sz33 zv33 rfl (vs := [.slice _ _ _, .slice _ _ _]) rfl rfl rfl (by decide)) ?_
                                        rintro _ w ⟨y148, rfl, S⟩
                                        have hS := S.pk [3, 4, 5, 6, 7, 8, 9, 10, 11, 12, 14, 15, 2] rfl
                                        refine ⟨hS, ?_⟩
                                        refine q_nil ?_
                                        refine t_sq ?_
                                        refine qg_does rfl rfl rfl rfl rfl (d_call Try.func71 nm71 rfl rfl (mn_seed _ _ _ (by first | with_reducible assumption | (rw [bv_length]; with_reducible assumption) | (rw [List.size_toArray, bv_length]; with_reducible assumption) | (simp [cat, hs, length_mroot, Value.cells]; done) | (simp [cat, hs, length_mroot, Value.cells]; omega) | rfl))) ?_
                                        rintro _ w ⟨rfl, hB⟩
                                        have S := S.below hB
                                        have hS := S.pk [3, 4, 5, 6, 7, 8, 9, 10, 11, 12, 14, 15, 2] rfl
                                        refine ⟨hS, ?_⟩
                                        refine qg_does rfl rfl rfl rfl rfl (d_call Try.func19 nm19 rfl rfl (Ret.mono (R' := fun v w' => v = .agg (bv (mseed s (g : Int))).toArray ∧ Below _ _ w') (join_calls _ _ _ _ [_, _] (Parts.two (S.rdRw 0 rfl rfl) (S.rdBytes 15 rfl rfl (by first | with_reducible assumption | (rw [bv_length]; with_reducible assumption) | (rw [List.size_toArray, bv_length]; with_reducible assumption) | (simp [cat, hs, length_mroot, Value.cells]; done) | (simp [cat, hs, length_mroot, Value.cells]; omega) | rfl)) (S.rdRw 1 rfl rfl)) (by simp [joinB, len4, hs]) (by simp)) (fun v w' ⟨hv, hB⟩ => ⟨by rw [hv]; unfold mseed; rfl, hB⟩))) ?_
                                        rintro _ w ⟨rfl, hB⟩
                                        have S := S.below hB
                                        have hS := S.pk [3, 4, 5, 6, 7, 8, 9, 10, 11, 12, 14, 15, 2] rfl
                                        refine ⟨hS, ?_⟩
                                        refine qg_val rfl rfl rfl rfl rfl (fun w hS => EqT.sumN eq29 gd29 rfl rfl (length_mseed _ _) (length_mseed _ _)) hS ?_
                                        refine q_val (fun w hS => e_pick_f rfl rfl) rfl hS ?_
                                        refine q_nil ?_
                                        refine t_stop ?_
                                        exact p_nil (x_then ⟨_, rfl, _, _, upds_eq ⟨rfl, rfl, rfl, rfl, rfl, rfl, rfl, rfl, trivial⟩, by first | (simp only [decide_eq_true_eq, eq_self, true_iff, iff_true, iff_false, Bool.false_eq_true, false_iff, ge_iff_le, gt_iff_lt, true_and, and_true, false_and, and_false, true_or, or_true, false_or, or_false, not_true_eq_false, not_false_eq_true]; omega) | (simp; done) | omega | (simp_all; done), S.pk [3, 4, 5, 6, 7, 8, 9, 10, 11, 12, 13, 14, 15] rfl⟩)
                                      · exact t_none
                                  · exact t_none
                            · exact False.elim (hg130 hver)
                    · rintro f w ⟨u, b151, rfl, hb151, S⟩
                      refine x_then ?_
                      refine s_condb rfl (fun hc151 => ?_) (fun hc151 => ?_)
                      · exact False.elim ((fun (hp151 : False) => hp151) (hb151.1 hc151))
                      · have hp151 : ¬ False := fun h => by rw [hb151.2 h] at hc151; cases hc151
                        refine s_skip (x_in ?_)
                        exact x_then ⟨_, rfl, _, upds_eq ⟨rfl, rfl, rfl, rfl, rfl, rfl, rfl, trivial⟩, S.pk [8, 9, 10, 11, 12] rfl⟩
              · rintro f w ⟨u, rfl, S⟩
                refine x_then (s_plain ?_)
                refine p_val (e_move (v := .int _ _) rfl) rfl ?_
                refine p_val (e_add64 rfl rfl (by omega)) rfl ?_
                refine p_val (e_assign (v := .int _ _) rfl) rfl ?_
                refine p_nil ?_
                refine x_round (g + 1) _ rfl ⟨_, upds_eq ⟨rfl, rfl, rfl, rfl, rfl, rfl, rfl, trivial⟩, S⟩ (by omega)
            · have hp50 : ¬ (((g : Int) < ((n0 : Nat) : Int)) ∧ ((g : Int) < (6 : Int))) := fun h => by rw [hb50.2 h] at hc50; cases hc50
              refine s_exit (x_then_exit (x_then_exit (x_in_same (x_then (s_seq (s_plain ?_))))))
              refine p_does (d_call Try.func58 nm58 rfl rfl (l5awake _)) rfl ?_
              rintro _ w ⟨rfl, hB⟩
              have S := S.below hB
              refine p_val (e_assign (v := .bool _) rfl) rfl ?_
              refine p_nil (x_then (s_ret ?_))
              exact post1 (v := .bool _) Try.results14 rfl (⟨rfl, S.to_below⟩)
theorem msigns_calls (w0 : World) (s : List Nat) (n : Int) (A : Option Addr) (n0 c0 : Nat) (X : List (Sl Nat)) (hs : s.length = 32) (hX : X.length = n0) (hY : ∀ y ∈ X, BSl w0 y) (R : Rd w0 1 A n0 (X.flatMap slC)) :
     Ret Try.prog 14 [.agg (bv s).toArray, .int .i64 n, .slice A n0 c0] w0 fun v w' => v = .bool true ∧ Below w0.heap.size w0 w' := by
  by_cases h : n < 1 ∨ 4 < n
  · exact msigns_out w0 s n A n0 c0 h
  · obtain ⟨m, rfl⟩ := Int.eq_ofNat_of_zero_le (show 0 ≤ n by omega)
    exact msigns_in w0 s m A n0 c0 X hs (by omega) (by omega) hX hY R
end Go.Proofs.Ytdhfiamgmokfbaa
