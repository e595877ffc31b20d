/- Own texts, one behind the other: walks and laws that the statement needs. They prove no statement by themselves. -/
import Derived.Test.YtcgcjklpilbndaaZP29b1
import Derived.Laws.IdiomStrings
import Derived.Laws.BytesArg
import Derived.OpenShut
import Derived.Deep.Slices
import Derived.Laws.StructEq
import Derived.Test.YtcgcjklpilbndaaChecked
/- Structs as rows of parts, elements of slices by an address that may be none, rows that are stored to. It proves no statement by itself. -/
set_option linter.unusedSimpArgs false
set_option linter.unusedVariables false
namespace Go.Proofs.Ytcgcjklpilbndaa.E
open Go Go.RowKit
def cat (l : List (List Value)) : List Value := l.flatten
@[simp] theorem cat_nil : cat [] = [] := rfl
@[simp] theorem cat_cons (x : List Value) (l : List (List Value)) : cat (x :: l) = x ++ cat l := rfl
theorem cat_append (a b : List (List Value)) : cat (a ++ b) = cat a ++ cat b := by simp [cat]
theorem cat_split (l : List (List Value)) (i n : Nat) : cat l = cat (l.take i) ++ cat ((l.drop i).take n) ++ cat (l.drop (i + n)) := by
  have h1 : l = l.take i ++ ((l.drop i).take n ++ l.drop (i + n)) := by
    conv => lhs; rw [← List.take_append_drop i l, ← List.take_append_drop n (l.drop i), List.drop_drop]
  conv => lhs; rw [h1]
  rw [cat_append, cat_append, List.append_assoc]
theorem cat_at {l : List (List Value)} {i : Nat} {xs : List Value} (h : l[i]? = some xs) : cat l = cat (l.take i) ++ xs ++ cat (l.drop (i + 1)) := by
  have e := cat_split l i 1
  have h2 : (l.drop i).take 1 = [xs] := by
    rw [List.take_one, List.head?_drop, h]; rfl
  rw [h2] at e
  simpa using e
/-! one cell a value -/
def One (l : List Value) : Prop := ∀ u ∈ l, u.oneCell' = true
theorem One.nil : One [] := by simp [One]
theorem One.cons {v : Value} {l : List Value} (h : v.oneCell' = true) (hl : One l) : One (v :: l) := by
  intro u hu
  rcases List.mem_cons.1 hu with rfl | hu
  · exact h
  · exact hl u hu
theorem One.append {a b : List Value} (h : One a) (h' : One b) : One (a ++ b) := fun u hu => (List.mem_append.1 hu).elim (h u) (h' u)
theorem One.cat0 : One (cat []) := One.nil
theorem One.cat1 {a : List Value} {l : List (List Value)} (h : One a) (h' : One (cat l)) : One (cat (a :: l)) := h.append h'
theorem One.mem {l : List Value} (h : One l) : ∀ u ∈ l, u.oneCell' = true := h
theorem One.bv (l : List Nat) : One (bv l) := bv_one l
theorem One.sv (l : List (List Nat)) : One (sv l) := sv_one l
theorem One.iv (l : List Int) : One (iv l) := iv_one l
theorem One.flat {α : Type} {c : α → List Value} {xs : List α} (h : ∀ x ∈ xs, One (c x)) : One (xs.flatMap c) := by
  intro u hu
  obtain ⟨x, hx, hu⟩ := List.mem_flatMap.1 hu
  exact h x hx u hu

/-! ### Parts of structs that lie in a block of the call's own -/
section
variable {w0 w : World} {ex : List Nat} {ks : List (Option Nat)} {ps : List (Option Obj → Prop)}
theorem St.part (S : St w0 w ex ks ps) (j : Nat) {b : Nat} {l : List (List Value)} {t : TypeId} (hk : ks[j]? = some (some b)) (hp : ps[j]? = some (Ex (cat l).toArray t)) (i n : Nat) {off size : Nat} (ho : (cat (l.take i)).length = off) (hn : (cat ((l.drop i).take n)).length = size) :
    Rd w 1 (some ((⟨b, 0, none⟩ : Addr).add off)) size (cat ((l.drop i).take n)) :=
  S.rdChunk j hk hp off (ys := cat (l.take i)) (zs := cat (l.drop (i + n))) (by simpa using cat_split l i n) ho (by rw [hn, Nat.mul_one])
theorem St.part1 (S : St w0 w ex ks ps) (j : Nat) {b : Nat} {l : List (List Value)} {t : TypeId} (hk : ks[j]? = some (some b)) (hp : ps[j]? = some (Ex (cat l).toArray t)) (i : Nat) {xs : List Value} (hx : l[i]? = some xs) {off size : Nat} (ho : (cat (l.take i)).length = off) (hn : xs.length = size) :
    Rd w 1 (some ((⟨b, 0, none⟩ : Addr).add off)) size xs :=
  S.rdChunk j hk hp off (ys := cat (l.take i)) (zs := cat (l.drop (i + 1))) (by simpa using cat_at hx) ho (by rw [hn, Nat.mul_one])
/-- parts of what is read -/
theorem Rd.part {n : Nat} {A : Option Addr} {l : List (List Value)} (R : Rd w 1 A n (cat l)) (i m : Nat) {off size : Nat} (ho : (cat (l.take i)).length = off) (hn : (cat ((l.drop i).take m)).length = size) :
    Rd w 1 (A.map (·.add off)) size (cat ((l.drop i).take m)) := by
  refine ⟨by rw [hn, Nat.mul_one], fun j u hu => ?_⟩
  have hj := (List.getElem?_eq_some_iff.1 hu).1
  have h2 : (cat l)[off + j]? = some u := by
    rw [cat_split l i m, List.append_assoc, List.getElem?_append_right (by omega), List.getElem?_append_left (by omega), show off + j - (cat (l.take i)).length = j by omega]
    exact hu
  obtain ⟨ad, rfl, hc⟩ := R.2 _ _ h2
  exact ⟨_, rfl, by rw [add_add]; exact hc⟩
theorem Rd.part1 {n : Nat} {A : Option Addr} {l : List (List Value)} (R : Rd w 1 A n (cat l)) (i : Nat) {xs : List Value} (hx : l[i]? = some xs) {off size : Nat} (ho : (cat (l.take i)).length = off) (hn : xs.length = size) :
    Rd w 1 (A.map (·.add off)) size xs := by
  have h := R.part i 1 ho (size := size) (by rw [List.take_one, List.head?_drop, hx]; simpa using hn)
  rwa [List.take_one, List.head?_drop, hx, show cat (some xs).toList = xs by simp [Option.toList]] at h
/-- an element of a slice -/
theorem Rd.elemA {α : Type} {c : α → List Value} {s n : Nat} {A : Option Addr} {xs : List α} (R : Rd w s A n (xs.flatMap c)) (h : ∀ x ∈ xs, (c x).length = s) {i : Int} {x : α} (hx : xs[i.toNat]? = some x) : Rd w 1 (A.map fun a => a.add (i.toNat * s)) s (c x) := by
  refine ⟨by rw [h x (List.mem_of_getElem? hx), Nat.mul_one], fun j u hu => ?_⟩
  have hj : j < s := by
    have := (List.getElem?_eq_some_iff.1 hu).1
    rwa [h x (List.mem_of_getElem? hx)] at this
  have h2 : (xs.flatMap c)[i.toNat * s + j]? = some u := by rw [flatMap_at h hx hj]; exact hu
  obtain ⟨ad, rfl, hc⟩ := R.2 _ _ h2
  exact ⟨_, rfl, by rw [add_add]; exact hc⟩
theorem Rd.sumA {n : Nat} {A : Option Addr} {L : List (List Nat)} (R : Rd w 32 A n (sv L)) (hL : All32 L) {i : Int} (h : 0 ≤ i ∧ i < L.length) : Rd w 1 (A.map fun a => a.add (i.toNat * 32)) 32 (bv (L.getD i.toNat [])) :=
  Rd.elemA (c := bv) (s := 32) R (fun x hx => by rw [bv_length]; exact hL x hx) (by rw [List.getD_eq_getElem?_getD, List.getElem?_eq_getElem (by omega)]; rfl)
theorem Rd.ne {n s : Nat} {A : Option Addr} {xs : List Value} (R : Rd w s A n xs) (hs : 0 < s) (hn : 0 < n) : ∃ ad, A = some ad := R.some_ (by rw [R.1]; exact Nat.mul_pos hn hs)
end
section
variable {P : Program} {ρ : Operand → Value} {d : Option Tmp} {x y : Operand} {t ty yt : TypeId} {ps : String} {af : Array Edge} {g : Option (Nat × Bool)} {w w0 : World} {k : IntKind} {ex : List Nat} {ks : List (Option Nat)} {pp : List (Option Obj → Prop)}
/-- the address of an element of a slice that is read -/
theorem e_ixR {A : Option Addr} {i : Int} {n c s : Nat} {e : TypeId} {xs : List Value} (R : Rd w s A n xs) (hs0 : 0 < s) (hx : ρ x = .slice A n c) (hy : ρ y = .int k i) (hu : P.underlying t = some (.slice e)) (hs : Sz P e s) (h0 : 0 ≤ i ∧ i < n) :
    (execOp ρ { dst := d, op := .indexAddr t x y, type := ty, pos := ps, after := af, guard := g }).run P w = .ok (.value (.pointer (A.map fun a => a.add (i.toNat * s)))) w := by
  obtain ⟨ad, rfl⟩ := R.ne hs0 (by omega)
  exact e_ix_sl hx hy hu hs h0
/-- a field's address -/
theorem e_fieldR {A : Option Addr} {fs : Array Field} {i s n : Nat} {fd : Field} {xs : List Value} (R : Rd w 1 A n xs) (hn : 0 < n) (hx : ρ x = .pointer A) (hu : P.underlying t = some (.struct fs)) (hf : fs[i]? = some fd) (hs : Sz P fd.type s) (hs0 : ¬ s = 0) :
    (execOp ρ { dst := d, op := .fieldAddr t x i, type := ty, pos := ps, after := af, guard := g }).run P w = .ok (.value (.pointer (A.map (·.add fd.offset)))) w := by
  obtain ⟨ad, rfl⟩ := R.ne (by decide) hn
  exact e_field hx hu hf hs hs0
/-- loads -/
theorem e_loadR1 {A : Option Addr} {v : Value} (hx : ρ x = .pointer A) (ha : Ag P t false) (R : Rd w 1 A 1 [v]) :
    (execOp ρ { dst := d, op := .load t x, type := ty, pos := ps, after := af, guard := g }).run P w = .ok (.value v) w := by
  obtain ⟨ad, rfl⟩ := R.ne (by decide) (by decide)
  exact e_load hx ha (by have := R.cell (j := 0) (u := v) rfl; rwa [add_zero] at this)
theorem e_loadRA {A : Option Addr} {cs : List Value} {s : Nat} (hx : ρ x = .pointer A) (ha : Ag P t true) (hs : Sz P t s) (hs0 : 0 < s) (R : Rd w 1 A s cs) :
    (execOp ρ { dst := d, op := .load t x, type := ty, pos := ps, after := af, guard := g }).run P w = .ok (.value (.agg cs.toArray)) w := by
  obtain ⟨ad, rfl⟩ := R.ne (by decide) hs0
  exact e_loadN hx ha hs (by rw [R.1, Nat.mul_one]) R.loads
theorem e_loadR1i {A : Option Addr} {n : Nat} {xs : List Value} {i : Int} {v : Value} (hx : ρ x = .pointer (A.map fun a => a.add (i.toNat * 1))) (ha : Ag P t false) (R : Rd w 1 A n xs) (hv : xs[i.toNat]? = some v) :
    (execOp ρ { dst := d, op := .load t x, type := ty, pos := ps, after := af, guard := g }).run P w = .ok (.value v) w := by
  obtain ⟨ad, rfl, hc⟩ := R.2 _ _ hv
  exact e_load hx ha (by rw [Nat.mul_one]; exact hc)
theorem e_loadRb {A : Option Addr} {n : Nat} {l : List Nat} {i : Int} (hx : ρ x = .pointer (A.map fun a => a.add (i.toNat * 1))) (ha : Ag P t false) (R : Rd w 1 A n (bv l)) (hi : 0 ≤ i ∧ i < n) :
    (execOp ρ { dst := d, op := .load t x, type := ty, pos := ps, after := af, guard := g }).run P w = .ok (.value (.int .u8 (l.getD i.toNat 0 : Int))) w :=
  e_loadR1i hx ha R (bv_get (by have := R.1; rw [bv_length, Nat.mul_one] at this; omega))
theorem e_loadRi {A : Option Addr} {n : Nat} {l : List Int} {i : Int} (hx : ρ x = .pointer (A.map fun a => a.add (i.toNat * 1))) (ha : Ag P t false) (R : Rd w 1 A n (iv l)) (hi : 0 ≤ i ∧ i < n) :
    (execOp ρ { dst := d, op := .load t x, type := ty, pos := ps, after := af, guard := g }).run P w = .ok (.value (.int .i64 (l.getD i.toNat 0))) w :=
  e_loadR1i hx ha R (iv_get (by have := R.1; rw [iv_length, Nat.mul_one] at this; omega))
/-- a field of a block of its own -/
theorem e_loadF1 {b j i off : Nat} {l : List (List Value)} {e : TypeId} {v : Value} (hx : ρ x = .pointer (some ((⟨b, 0, none⟩ : Addr).add off))) (ha : Ag P t false) (S : St w0 w ex ks pp) (hk : ks[j]? = some (some b)) (hp : pp[j]? = some (Ex (cat l).toArray e)) (hl : l[i]? = some [v]) (ho : (cat (l.take i)).length = off) :
    (execOp ρ { dst := d, op := .load t x, type := ty, pos := ps, after := af, guard := g }).run P w = .ok (.value v) w :=
  e_loadR1 hx ha (S.part1 j hk hp i hl ho rfl)
theorem e_loadFA {b j i off s : Nat} {l : List (List Value)} {e : TypeId} {xs : List Value} (hx : ρ x = .pointer (some ((⟨b, 0, none⟩ : Addr).add off))) (ha : Ag P t true) (hs : Sz P t s) (hs0 : 0 < s) (S : St w0 w ex ks pp) (hk : ks[j]? = some (some b)) (hp : pp[j]? = some (Ex (cat l).toArray e)) (hl : l[i]? = some xs) (ho : (cat (l.take i)).length = off) (hn : xs.length = s) :
    (execOp ρ { dst := d, op := .load t x, type := ty, pos := ps, after := af, guard := g }).run P w = .ok (.value (.agg xs.toArray)) w :=
  e_loadRA hx ha hs hs0 (S.part1 j hk hp i hl ho hn)
theorem e_loadFS {b j i n off s : Nat} {l : List (List Value)} {e : TypeId} (hx : ρ x = .pointer (some ((⟨b, 0, none⟩ : Addr).add off))) (ha : Ag P t true) (hs : Sz P t s) (hs0 : 0 < s) (S : St w0 w ex ks pp) (hk : ks[j]? = some (some b)) (hp : pp[j]? = some (Ex (cat l).toArray e)) (ho : (cat (l.take i)).length = off) (hn : (cat ((l.drop i).take n)).length = s) :
    (execOp ρ { dst := d, op := .load t x, type := ty, pos := ps, after := af, guard := g }).run P w = .ok (.value (.agg (cat ((l.drop i).take n)).toArray)) w :=
  e_loadRA hx ha hs hs0 (S.part j hk hp i n ho hn)
/-- the whole of a block of its own -/
theorem e_loadW {bl s : Nat} {cs : List Value} {e : TypeId} (j : Nat) (hx : ρ x = .pointer (some ⟨bl, 0, none⟩)) (ha : Ag P t true) (hs : Sz P t s) (S : St w0 w ex ks pp) (hk : ks[j]? = some (some bl)) (hp : pp[j]? = some (Ex cs.toArray e)) (hl : cs.length = s) :
    (execOp ρ { dst := d, op := .load t x, type := ty, pos := ps, after := af, guard := g }).run P w = .ok (.value (.agg cs.toArray)) w :=
  e_loadEx hx ha hs S j hk hp (by simpa using hl)
/-- stores to fields -/
theorem seg3 (a b c v : List Value) : (a ++ b ++ c).take a.length ++ v ++ (a ++ b ++ c).drop (a.length + b.length) = a ++ v ++ c := by
  rw [List.append_assoc a b c, List.take_left, ← List.drop_drop, List.drop_left, List.drop_left]
theorem cat_set {l : List (List Value)} {i : Nat} {xs vs : List Value} (h : l[i]? = some xs) (hv : vs.length = xs.length) :
    ((cat l).toArray.toList.take (cat (l.take i)).length ++ vs ++ (cat l).toArray.toList.drop ((cat (l.take i)).length + vs.length)).toArray = (cat (l.set i vs)).toArray := by
  have e1 := cat_at h
  have hi := (List.getElem?_eq_some_iff.1 h).1
  have e2 : l.set i vs = l.take i ++ vs :: l.drop (i + 1) := List.set_eq_take_append_cons_drop.trans (if_pos hi)
  congr 1
  show (cat l).take _ ++ vs ++ (cat l).drop _ = _
  rw [e2, cat_append, cat_cons, hv, e1, seg3, List.append_assoc]
theorem d_storeF1 (S : St w0 w ex ks pp) (j i : Nat) {b off : Nat} {l : List (List Value)} {e : TypeId} {u v : Value} (hx : ρ x = .pointer (some ((⟨b, 0, none⟩ : Addr).add off))) (hy : ρ y = v) (h1 : v.oneCell' = true) (hs : Sz P t 1)
    (hk : ks[j]? = some (some b)) (hp : pp[j]? = some (Ex (cat l).toArray e)) (hl : l[i]? = some [u]) (ho : (cat (l.take i)).length = off) :
    Does P ρ { dst := d, op := .store t x y, type := ty, pos := ps, after := af, guard := g } w fun _ w' => St w0 w' ex ks (pp.set j (Ex (cat (l.set i [v])).toArray e)) := by
  have hlen : off < (cat l).length := by rw [cat_at hl]; simp; omega
  have h := d_store1 (P := P) (ρ := ρ) (d := d) (x := x) (y := y) (t := t) (ty := ty) (ps := ps) (af := af) (g := g) S j hx hy h1 hs hk hp (m := off) (by simpa using hlen)
  have e2 : (cat l).toArray.setIfInBounds off v = (cat (l.set i [v])).toArray := by
    rw [← cat_set hl (vs := [v]) rfl, ho]
    apply Array.ext'
    rw [Array.toList_setIfInBounds]
    simp only [List.toList_toArray]
    rw [List.set_eq_take_append_cons_drop, if_pos hlen]
    simp
  rwa [e2] at h
theorem d_storeFA (S : St w0 w ex ks pp) (j i : Nat) {b off s : Nat} {l : List (List Value)} {e : TypeId} {us vs : List Value} (hx : ρ x = .pointer (some ((⟨b, 0, none⟩ : Addr).add off))) (hy : ρ y = .agg vs.toArray) (h1 : ∀ v ∈ vs, v.oneCell' = true) (hs : Sz P t s) (hv : vs.length = s)
    (hk : ks[j]? = some (some b)) (hp : pp[j]? = some (Ex (cat l).toArray e)) (hl : l[i]? = some us) (hul : us.length = s) (ho : (cat (l.take i)).length = off) :
    Does P ρ { dst := d, op := .store t x y, type := ty, pos := ps, after := af, guard := g } w fun _ w' => St w0 w' ex ks (pp.set j (Ex (cat (l.set i vs)).toArray e)) := by
  have hlen : off + s ≤ (cat l).toArray.size := by rw [List.size_toArray, cat_at hl]; simp; omega
  have h := d_storeN (P := P) (ρ := ρ) (d := d) (x := x) (y := y) (t := t) (ty := ty) (ps := ps) (af := af) (g := g) S j (m := off) hx hy h1 hs hv hk hp hlen
  rw [← hv, ← ho, cat_set hl (by omega)] at h
  exact h
/-- a row of the call's own is stored to -/
theorem d_storeRwN {e : TypeId} {size n cap : Nat} {xs vs : List Value} {k0 : Option Nat} {i : Int} (S : St w0 w ex ks pp) (j : Nat) (hk : ks[j]? = some k0) (hp : pp[j]? = some (Rw e size n cap xs)) (hx : ρ x = .pointer ((at_ k0).map fun a => a.add (i.toNat * size))) (hy : ρ y = .agg vs.toArray) (h1 : ∀ v ∈ vs, v.oneCell' = true) (hs : Sz P t size) (hv : vs.length = size) (hi : 0 ≤ i ∧ i < n) (hsz : 0 < size) :
    Does P ρ { dst := d, op := .store t x y, type := ty, pos := ps, after := af, guard := g } w fun _ w' => St w0 w' ex ks (pp.set j (Rw e size n cap (xs.take (i.toNat * size) ++ vs ++ xs.drop (i.toNat * size + size)))) := by
  obtain ⟨hxl, h⟩ := S.own j _ _ hk hp
  have hin : (i.toNat + 1) * size ≤ n * size := Nat.mul_le_mul_right _ (by omega)
  rw [Nat.add_mul, Nat.one_mul] at hin
  rcases h with ⟨_, h0, _⟩ | ⟨cur, hc, hnc, hcm, hcs, ht⟩
  · omega
  · cases k0 with
    | none => cases hc
    | some b =>
      have hb : w.heap[b]? = some (.cells cur e (0, 0)) := hc
      have hnc' : n * size ≤ cap * size := Nat.mul_le_mul_right _ hnc
      have hfit : i.toNat * size + 0 + vs.length ≤ cur.size := by omega
      have hr := run_storeCells_at P b (i.toNat * size) e vs 0 cur w hb hfit h1
      have hs' := hs w
      simp only [Nat.add_zero] at hr
      refine .inr (.inl ⟨w.setRow b (cur.toList.take (i.toNat * size) ++ vs ++ cur.toList.drop (i.toNat * size + vs.length)).toArray, ?_, S.setRow j (Rw _ _ _ _ _) hk hb ?_⟩)
      · simp only [at_, Option.map_some, add_lit] at hx
        simp [execOp, hx, hy, Instr.storeAt, Instr.sureAddr, storeVar, hs', Value.cells, hv, hr]
      · have hcl : cur.toList.length = cap * size := by simpa using hcs
        refine ⟨?_, .inr ⟨_, rfl, hnc, hcm, ?_, ?_⟩⟩
        · simp only [List.length_append, List.length_take, List.length_drop]; omega
        · simp only [List.size_toArray, List.length_append, List.length_take, List.length_drop]; omega
        · rw [← ht]
          simp only [List.toList_toArray]
          rw [List.take_append, List.take_append, List.take_take, List.drop_take]
          simp only [List.length_append, List.length_take, List.take_take]
          rw [show min (n * size) (i.toNat * size) = i.toNat * size by omega, show min (i.toNat * size) (n * size) = i.toNat * size by omega, show min (i.toNat * size) cur.toList.length = i.toNat * size by omega, hv, List.take_of_length_le (show vs.length ≤ n * size - i.toNat * size by omega), show n * size - (i.toNat * size + size) = n * size - (i.toNat * size + size) by rfl]
theorem d_storeRw1 {e : TypeId} {n cap : Nat} {xs : List Value} {v : Value} {k0 : Option Nat} {i : Int} (S : St w0 w ex ks pp) (j : Nat) (hk : ks[j]? = some k0) (hp : pp[j]? = some (Rw e 1 n cap xs)) (hx : ρ x = .pointer ((at_ k0).map fun a => a.add (i.toNat * 1))) (hy : ρ y = v) (h1 : v.oneCell' = true) (hs : Sz P t 1) (hi : 0 ≤ i ∧ i < n) :
    Does P ρ { dst := d, op := .store t x y, type := ty, pos := ps, after := af, guard := g } w fun _ w' => St w0 w' ex ks (pp.set j (Rw e 1 n cap (xs.set i.toNat v))) := by
  obtain ⟨hxl, h⟩ := S.own j _ _ hk hp
  rcases h with ⟨_, h0, _⟩ | ⟨cur, hc, hnc, hcm, hcs, ht⟩
  · omega
  · cases k0 with
    | none => cases hc
    | some b =>
      have hb : w.heap[b]? = some (.cells cur e (0, 0)) := hc
      have hcv : v.cells = #[v] := by cases v <;> simp_all [Value.oneCell', Value.cells]
      have hfit : i.toNat + 0 + [v].length ≤ cur.size := by simp; omega
      have hr := run_storeCells_at P b i.toNat e [v] 0 cur w hb hfit (by intro u hu; rw [List.mem_singleton.1 hu]; exact h1)
      have hs' := hs w
      simp only [Nat.add_zero] at hr
      refine .inr (.inl ⟨w.setRow b (cur.toList.take i.toNat ++ [v] ++ cur.toList.drop (i.toNat + [v].length)).toArray, ?_, S.setRow j (Rw _ _ _ _ _) hk hb ?_⟩)
      · simp only [at_, Option.map_some, add_lit, Nat.mul_one] at hx
        simp [execOp, hx, hy, Instr.storeAt, Instr.sureAddr, storeVar, hs', hcv] at hr ⊢
        first | done | simp [hr]
      · have hcl : cur.toList.length = cap * 1 := by simpa using hcs
        have e0 : cur.toList.take i.toNat ++ [v] ++ cur.toList.drop (i.toNat + [v].length) = cur.toList.set i.toNat v := by
          rw [List.set_eq_take_append_cons_drop, if_pos (by omega)]; simp
        rw [e0]
        refine ⟨by simpa using hxl, .inr ⟨_, rfl, hnc, hcm, by simpa using hcs, ?_⟩⟩
        rw [← ht]
        simp only [List.toList_toArray, Nat.mul_one]
        rw [List.take_set]
end
/-! ### Structs that are put together -/
theorem fill_cat {place : Nat → Option (Nat × Nat)} {l l' : List (List Value)} {i off size : Nat} {v : Value} {rest : List (Nat × Value)} (a n : Nat) (hp : place i = some (off, size)) (hv : v.cells.toList = cat l') (hl' : (cat l').length = size) (ho : (cat (l.take a)).length = off) (hn : (cat ((l.drop a).take n)).length = size) :
    Instr.fill place (cat l).toArray ((i, v) :: rest) = Instr.fill place (cat (l.take a ++ l' ++ l.drop (a + n))).toArray rest := by
  have hsp := cat_split l a n
  have hvs : v.cells.size = size := by rw [← Array.length_toList, hv, hl']
  have hlen : (cat l).length = off + size + (cat (l.drop (a + n))).length := by rw [hsp]; simp only [List.length_append]; omega
  simp only [Instr.fill, hp]
  rw [if_neg (by simp [hvs, hlen])]
  congr 1
  have hf := foldl_set #[] off v.cells.toList 0 (cat l).toArray (by simp [hv, hl', hlen])
  simp only [Nat.add_zero] at hf
  have hz : v.cells.zipIdx.foldl (fun (cs : Array Value) (x : Value × Nat) => cs.setIfInBounds (off + x.2) x.1) (cat l).toArray = ((cat l).toArray.toList.take off ++ v.cells.toList ++ (cat l).toArray.toList.drop (off + v.cells.toList.length)).toArray := by
    rw [← hf, ← Array.foldl_toList, Array.toList_zipIdx]
  rw [hz]
  congr 1
  rw [cat_append, cat_append, hv, hl']
  show (cat l).take off ++ cat l' ++ (cat l).drop (off + size) = _
  rw [hsp, ← ho, ← hn, seg3]
/-- how a struct's type is built: its zero's parts, its fields' places -/
def Bt (P : Program) (t : TypeId) (zc : List (List Value)) (pl : List (Nat × Nat)) : Prop := ∀ parts, P.built t parts = Instr.fill (pl.toArray[·]?) (cat zc).toArray parts
theorem bt_of {P : Program} {t : TypeId} {zc : List (List Value)} {pl : List (Nat × Nat)} {fs : Array Field} (hz : (P.info? t).map (·.zero.map (·.cells)) = some (some (cat zc).toArray)) (hu : P.underlying t = some (.struct fs))
    (hp : fs.toList.mapM (fun f => (P.info? f.type).map fun i => (f.offset, i.size)) = some pl) : Bt P t zc pl := by
  intro parts
  obtain ⟨it, hi, h1⟩ := Option.map_eq_some_iff.1 hz
  obtain ⟨z, hz1, h2⟩ := Option.map_eq_some_iff.1 h1
  unfold Program.built
  simp only [hi, hu, hz1, hp, h2]
section
variable {P : Program} {ρ : Operand → Value} {d : Option Tmp} {x : Operand} {t ty : TypeId} {ps : String} {af : Array Edge} {g : Option (Nat × Bool)} {w : World}
theorem e_buildS {parts : List (Nat × Operand)} {zc l : List (List Value)} {pl : List (Nat × Nat)} (hb : Bt P t zc pl) (h : Instr.fill (pl.toArray[·]?) (cat zc).toArray (parts.map fun (q : Nat × Operand) => (q.1, ρ q.2)) = some (cat l).toArray) :
    (execOp ρ { dst := d, op := .build t parts.toArray, type := ty, pos := ps, after := af, guard := g }).run P w = .ok (.value (.agg (cat l).toArray)) w :=
  e_build ((hb _).trans (by rw [← h]; congr 1; simp))
theorem e_buildS0 {zc : List (List Value)} {pl : List (Nat × Nat)} (hb : Bt P t zc pl) :
    (execOp ρ { dst := d, op := .build t #[], type := ty, pos := ps, after := af, guard := g }).run P w = .ok (.value (.agg (cat zc).toArray)) w :=
  e_build ((hb _).trans (by simp [Instr.fill]))
/-- fields of values -/
theorem e_fieldV1 {fs : Array Field} {i a : Nat} {fd : Field} {l : List (List Value)} {v : Value} (hx : ρ x = .agg (cat l).toArray) (hu : P.underlying t = some (.struct fs)) (hf : fs[i]? = some fd) (ha : Ag P fd.type false) (hl : l[a]? = some [v]) (ho : (cat (l.take a)).length = fd.offset) :
    (execOp ρ { dst := d, op := .field t x i, type := ty, pos := ps, after := af, guard := g }).run P w = .ok (.value v) w := by
  have ha' := ha w
  have h2 : (cat l)[fd.offset]? = some v := by
    rw [cat_at hl, List.append_assoc, List.getElem?_append_right (by omega), show fd.offset - (cat (l.take a)).length = 0 by omega]; rfl
  simp [execOp, hx, Instr.field, run_underlying hu, hf, asAgg, part, ha', h2]
theorem e_fieldVS {fs : Array Field} {i a n s : Nat} {fd : Field} {l : List (List Value)} (hx : ρ x = .agg (cat l).toArray) (hu : P.underlying t = some (.struct fs)) (hf : fs[i]? = some fd) (ha : Ag P fd.type true) (hs : Sz P fd.type s) (ho : (cat (l.take a)).length = fd.offset) (hn : (cat ((l.drop a).take n)).length = s) :
    (execOp ρ { dst := d, op := .field t x i, type := ty, pos := ps, after := af, guard := g }).run P w = .ok (.value (.agg (cat ((l.drop a).take n)).toArray)) w := by
  have ha' := ha w
  have hs' := hs w
  have h2 : (cat l).toArray.extract fd.offset (fd.offset + s) = (cat ((l.drop a).take n)).toArray := by
    apply Array.ext'
    rw [Array.toList_extract, List.extract_eq_take_drop]
    show ((cat l).drop fd.offset).take _ = _
    rw [cat_split l a n, show fd.offset + s - fd.offset = s by omega, List.append_assoc, ← ho, List.drop_left, ← hn, List.take_left]
  have h3 : (part fd.type (cat l).toArray fd.offset).run P w = .ok (.agg (cat ((l.drop a).take n)).toArray) w := by
    unfold part
    simp only [Sem.run_bind, ha', hs', Result.andThen_ok, if_true, Sem.run_pure, h2]
  simp only [execOp, hx, Instr.field, Sem.run_bind, run_underlying hu, Result.andThen_ok, hf, asAgg, Sem.run_pure, h3]
theorem e_fieldVA {fs : Array Field} {i a s : Nat} {fd : Field} {l : List (List Value)} {xs : List Value} (hx : ρ x = .agg (cat l).toArray) (hu : P.underlying t = some (.struct fs)) (hf : fs[i]? = some fd) (ha : Ag P fd.type true) (hs : Sz P fd.type s) (hl : l[a]? = some xs) (ho : (cat (l.take a)).length = fd.offset) (hn : xs.length = s) :
    (execOp ρ { dst := d, op := .field t x i, type := ty, pos := ps, after := af, guard := g }).run P w = .ok (.value (.agg xs.toArray)) w := by
  have h1 : cat ((l.drop a).take 1) = xs := by rw [List.take_one, List.head?_drop, hl]; simp [Option.toList]
  have := e_fieldVS (P := P) (ρ := ρ) (d := d) (x := x) (t := t) (ty := ty) (ps := ps) (af := af) (g := g) (w := w) (n := 1) hx hu hf ha hs ho (by rw [h1]; exact hn)
  rwa [h1] at this
end
/-! ### Loops and cuts that keep what is not spoken of -/
section
variable {P : Program} {Q : Exit → Act → World → Prop} {n : Nat} {f : Nat → Value} {w0 w : World} {c : Code} {ex : List Nat} {ks : List (Option Nat)} {ps : List (Option Obj → Prop)}
theorem s_loopK {α : Type} (keep : List (Nat × Value)) (hk : Holds f keep) (S : St w0 w ex ks ps) (J : List (Nat × Value) → List (Option Nat) → List (Option Obj → Prop) → α → (Nat → Value) → World → Prop) (μ : α → Nat) (g0 : α) (h0 : J keep ks ps g0 f w)
    (round : ∀ (g : α) (f : Nat → Value) (w : World), J keep ks ps g f w → c.wp P (Exit.then (fun a' w' => ∃ (g' : α) (f' : Nat → Value), a' = F n f' ∧ J keep ks ps g' f' w' ∧ μ g' < μ g) Q) (F n f) w) :
    (Code.loop c).wp P Q (F n f) w := s_loop (J keep ks ps) μ g0 h0 round
theorem s_cutK (keep : List (Nat × Value)) (hk : Holds f keep) (S : St w0 w ex ks ps) (M : List (Nat × Value) → List (Option Nat) → List (Option Obj → Prop) → (Nat → Value) → World → Prop) (h1 : c.wp P (Exit.then (fun a' w' => ∃ f', a' = F n f' ∧ M keep ks ps f' w') Q) (F n f) w)
    (h2 : ∀ f' w', M keep ks ps f' w' → Q .normal (F n f') w') : c.wp P Q (F n f) w := s_cut (fun _ f' w' => M keep ks ps f' w') h1 h2
/-- a guarded region: the frame is what it was, but for what it wrote -/
theorem s_cutG (S : St w0 w ex ks ps) (M : List (Option Nat) → List (Option Obj → Prop) → (Nat → Value) → (Nat → Value) → World → Prop) (h1 : c.wp P (Exit.then (fun a' w' => ∃ f', a' = F n f' ∧ M ks ps f f' w') Q) (F n f) w)
    (h2 : ∀ f' w', M ks ps f f' w' → Q .normal (F n f') w') : c.wp P Q (F n f) w := s_cut (fun f f' w' => M ks ps f f' w') h1 h2
variable {id : Nat} {l : List Oper}
theorem s_drawK (hS : St w0 w ex ks ps) (order : List (Bool × Nat)) (Z tl : List Nat) (hm : P.follows .mixedOrders = true)
    (hB : (Region.noSelect l.toArray && orderB l.toArray Z tl order (Array.replicate l.length false) && order.length + tl.length == l.length) = true) (hQ : Calm Q)
    (h : St w0 w.drew ex ks ps → seqH P l.toArray Q (fun w' => St w0 w' ex ks ps) (wpList P l.toArray Q (pickL l.toArray tl)) (pick l.toArray order) (F n f) w.drew) : (Code.region id l.toArray true).wp P Q (F n f) w :=
  s_drawZ order Z tl (fun w' => St w0 w' ex ks ps) hm hB hQ (h hS.drew)
theorem s_drawTK (hS : St w0 w ex ks ps) (t : OT) (Z tl : List Nat) (hm : P.follows .mixedOrders = true)
    (hB : (Region.noSelect l.toArray && checkT l.toArray Z tl t false l.length (Array.replicate l.length false)) = true) (hQ : Calm Q)
    (h : St w0 w.drew ex ks ps → treeH P l.toArray Q (fun w' => St w0 w' ex ks ps) (wpList P l.toArray Q (pickL l.toArray tl)) t (F n f) w.drew) : (Code.region id l.toArray true).wp P Q (F n f) w :=
  s_drawT t Z tl (fun w' => St w0 w' ex ks ps) hm hB hQ (h hS.drew)
end
section
variable {P : Program} {ops : Array Oper} {Q : Exit → Act → World → Prop} {S : World → Prop} {N : Act → World → Prop} {w0 w : World} {a : Act} {ex : List Nat} {ks : List (Option Nat)} {ps : List (Option Obj → Prop)} {t : OT}
theorem t_reK (S0 : St w0 w ex ks ps) (h : ∀ w', St w0 w' ex ks ps → S w') (hk : St w0 w ex ks ps → treeH P ops Q (fun w' => St w0 w' ex ks ps) N t a w) : treeH P ops Q S N (.re t) a w := t_re h (hk S0)
end
/-! a guard that names an operation which was not done -/
section
variable {P : Program} {ops : Array Oper} {Q : Exit → Act → World → Prop} {S : World → Prop} {N : Act → World → Prop} {n : Nat} {f : Nat → Value} {w : World} {rest : List Oper} {rest' : List (Bool × Oper)} {j d : Nat} {oj : Oper} {want c : Bool}
variable {d0 : Option Tmp} {op0 : Op} {ty0 : TypeId} {ps0 : String} {af0 : Array Edge} {g0 : Option (Nat × Bool)}
theorem wanted_U {o : Oper} (hg : o.guard = some (j, want)) (hj : ops[j]? = some oj) (hd : oj.dst = some d) (hv : ev n f (.tmp d) = undef) : Region.wanted o (yielded ops (F n f).tmps) = false := by
  have h1 := F_getElem? n f d
  have hy : yielded ops (F n f).tmps j = none := by
    unfold yielded
    simp only [hj, hd, Option.bind_some]
    rw [h1]
    by_cases h : d < n
    · have hb : Nat.blt d n = true := by simpa [Nat.blt_eq] using h
      change (bif Nat.blt d n then f d else undef) = undef at hv
      rw [hb] at hv
      simp only [cond_true] at hv
      rw [if_pos h, hv]
      rfl
    · rw [if_neg h]
  unfold Region.wanted
  rw [hg]
  simp only [hy]
  rfl
theorem p_noU (hg : g0 = some (j, want)) (hj : ops[j]? = some oj) (hd : oj.dst = some d) (hv : ev n f (.tmp d) = undef) (h : wpList P ops Q rest (F n (updo f d0 undef)) w) : wpList P ops Q ({ dst := d0, op := op0, type := ty0, pos := ps0, after := af0, guard := g0 } :: rest) (F n f) w :=
  wpList_step fun K hK => by
    rw [wanted_U hg hj hd hv, if_neg (by simp)]
    exact hK _ _ (by rw [put_F]; exact h)
theorem q_noU (hg : g0 = some (j, want)) (hj : ops[j]? = some oj) (hd : oj.dst = some d) (hv : ev n f (.tmp d) = undef) (hS : S w) (h : seqH P ops Q S N rest' (F n (updo f d0 undef)) w) : seqH P ops Q S N ((c, { dst := d0, op := op0, type := ty0, pos := ps0, after := af0, guard := g0 }) :: rest') (F n f) w := by
  cases c with
  | true => exact ⟨undef, .inr ⟨by rw [wanted_U hg hj hd hv], rfl⟩, hS, by rw [put_F]; exact h⟩
  | false =>
    unfold seqH
    rw [wanted_U hg hj hd hv, if_neg (by simp)]
    exact ⟨hS, by rw [put_F]; exact h⟩
end
end Go.Proofs.Ytcgcjklpilbndaa.E

/- Strings out of bytes and back, the last bit turned, rows that are made, parts of rows. It proves no statement by itself. -/
set_option linter.unusedSimpArgs false
set_option linter.unusedVariables false
namespace Go.Proofs.Ytcgcjklpilbndaa.E
open Go Go.RowKit
theorem dec_ne {p q : Prop} [Decidable p] [Decidable q] (h : p ↔ q) (e : (decide p == decide q) = false) : False := by
  have : decide p = decide q := decide_eq_decide.2 h
  rw [this] at e
  cases hq : decide q <;> rw [hq] at e <;> cases e
def zsum : List Nat := List.replicate 32 0
theorem length_zsum : zsum.length = 32 := by simp [zsum]
theorem copy_all {z xs : List Value} {m n : Nat} (hz : z.length = n) (hx : xs.length = n) (hm : m = n) : (xs.take n ++ z.toArray.toList.drop (min m n)).toArray = xs.toArray := by
  subst hm
  rw [List.take_of_length_le (Nat.le_of_eq hx), List.drop_of_length_le (by simp [hz])]
  simp
def strOf (l : List Nat) : ByteArray := strOfNums (l.map fun (x : Nat) => (x : Int))
theorem strOf_list (l : List Nat) : (strOf l).toList = l.map UInt8.ofNat := by
  rw [ByteArray.toList_eq]
  unfold strOf
  rw [strOfNums_data, List.map_map]
  rfl
theorem u8s_inj : ∀ {a b : List Nat}, (∀ x ∈ a, x < 256) → (∀ x ∈ b, x < 256) → a.map UInt8.ofNat = b.map UInt8.ofNat → a = b
  | [], [], _, _, _ => rfl
  | [], _ :: _, _, _, h => by simp at h
  | _ :: _, [], _, _, h => by simp at h
  | x :: a, y :: b, ha, hb, h => by
    simp only [List.map_cons, List.cons.injEq] at h
    have h2 := congrArg UInt8.toNat h.1
    simp only [UInt8.toNat_ofNat'] at h2
    have := ha x (by simp)
    have := hb y (by simp)
    rw [u8s_inj (fun z hz => ha z (by simp [hz])) (fun z hz => hb z (by simp [hz])) h.2, show x = y by omega]
theorem strOf_beq {a b : List Nat} (ha : ∀ x ∈ a, x < 256) (hb : ∀ x ∈ b, x < 256) : (strOf a == strOf b) = decide (a = b) := by
  rw [beq_toListBytes, strOf_list, strOf_list]
  by_cases h : a = b
  · subst h; simp
  · have : ¬ a.map UInt8.ofNat = b.map UInt8.ofNat := fun e => h (u8s_inj ha hb e)
    simp [h, this]
theorem strOf_bne {a b : List Nat} (ha : ∀ x ∈ a, x < 256) (hb : ∀ x ∈ b, x < 256) : (strOf a != strOf b) = decide (¬ a = b) := by
  rw [bne, strOf_beq ha hb]; by_cases h : a = b <;> simp [h]
def xor1 (a : Int) : Int := a + 1 - 2 * (a % 2)
theorem nat_xor1 (n : Nat) : n ^^^ 1 = n + 1 - 2 * (n % 2) := by
  rcases Nat.mod_two_eq_zero_or_one n with h | h
  · have : n = 2 * (n / 2) := by omega
    rw [h]
    have e : n ^^^ 1 = n + 1 := by
      apply Nat.eq_of_testBit_eq
      intro i
      cases i with
      | zero => simp [Nat.testBit_zero]; omega
      | succ i =>
        rw [Nat.testBit_xor, Nat.testBit_succ, Nat.testBit_succ, Nat.testBit_succ]
        simp
        congr 1
        omega
    omega
  · have e : n ^^^ 1 = n - 1 := by
      apply Nat.eq_of_testBit_eq
      intro i
      cases i with
      | zero => simp [Nat.testBit_zero]; omega
      | succ i =>
        rw [Nat.testBit_xor, Nat.testBit_succ, Nat.testBit_succ, Nat.testBit_succ]
        simp
        congr 1
        omega
    omega
/-- a block of bytes that is only read -/
def Fz (n : Nat) (xs : List Value) : Option Obj → Prop := fun o => xs.length = n ∧ ∃ cs t fr, o = some (.cells cs t fr) ∧ n ≤ cs.size ∧ cs.toList.take n = xs
section
variable {w0 w : World} {ex : List Nat} {ks : List (Option Nat)} {ps : List (Option Obj → Prop)}
theorem St.rdFz (S : St w0 w ex ks ps) (i : Nat) {b n : Nat} {xs : List Value} (hk : ks[i]? = some (some b)) (hp : ps[i]? = some (Fz n xs)) : Rd w 1 (some ⟨b, 0, none⟩) n xs := by
  obtain ⟨hl, cs, t, fr, ho, hn, ht⟩ := S.own i _ _ hk hp
  refine ⟨by omega, fun j u hu => ⟨_, rfl, ?_⟩⟩
  rw [add_lit, cell_of_row w b j cs t fr (by simpa using ho)]
  rw [← ht, List.getElem?_take] at hu
  split at hu
  · simpa using hu
  · cases hu
theorem flat_take {α : Type} {c : α → List Value} {s : Nat} {xs : List α} (h : ∀ x ∈ xs, (c x).length = s) (m : Nat) : (xs.flatMap c).take (m * s) = (xs.take m).flatMap c := by
  induction xs generalizing m with
  | nil => simp
  | cons x xs ih =>
    cases m with
    | zero => simp
    | succ m =>
      have hx := h x (by simp)
      rw [List.flatMap_cons, List.take_succ_cons, List.flatMap_cons, ← ih (fun y hy => h y (by simp [hy])), List.take_append, hx, List.take_of_length_le (by rw [hx, Nat.add_mul]; omega), show (m + 1) * s - s = m * s by rw [Nat.add_mul]; omega]
theorem flat_drop {α : Type} {c : α → List Value} {s : Nat} {xs : List α} (h : ∀ x ∈ xs, (c x).length = s) (m : Nat) : (xs.flatMap c).drop (m * s) = (xs.drop m).flatMap c := by
  induction xs generalizing m with
  | nil => simp
  | cons x xs ih =>
    cases m with
    | zero => simp
    | succ m =>
      have hx := h x (by simp)
      rw [List.flatMap_cons, List.drop_succ_cons, ← ih (fun y hy => h y (by simp [hy])), List.drop_append, hx, List.drop_of_length_le (by rw [hx, Nat.add_mul]; omega), List.nil_append, show (m + 1) * s - s = m * s by rw [Nat.add_mul]; omega]
theorem Rd.take_f {α : Type} {c : α → List Value} {s n m : Nat} {A : Option Addr} {xs : List α} (hl : ∀ x ∈ xs, (c x).length = s) (h : Rd w s A n (xs.flatMap c)) (hm : m ≤ n) : Rd w s A m ((xs.take m).flatMap c) := by
  have := h.take hm
  rwa [flat_take hl] at this
theorem Rd.drop_f {α : Type} {c : α → List Value} {s n m cap : Nat} {A : Option Addr} {xs : List α} (hl : ∀ x ∈ xs, (c x).length = s) (h : Rd w s A n (xs.flatMap c)) (hm : m ≤ n) (hc : n ≤ cap) : Rd w s (if cap = m then A else A.map (·.add (m * s))) (n - m) ((xs.drop m).flatMap c) := by
  have := h.drop hm hc
  rwa [flat_drop hl] at this
theorem All32.len {L : List (List Nat)} (h : All32 L) : ∀ x ∈ L, (bv x).length = 32 := fun x hx => by rw [bv_length]; exact h x hx
theorem Rd.take_sv {n m : Nat} {A : Option Addr} {L : List (List Nat)} (hL : All32 L) (h : Rd w 32 A n (sv L)) (hm : m ≤ n) : Rd w 32 A m (sv (L.take m)) := Rd.take_f (c := bv) hL.len h hm
theorem Rd.drop_sv {n m cap : Nat} {A : Option Addr} {L : List (List Nat)} (hL : All32 L) (h : Rd w 32 A n (sv L)) (hm : m ≤ n) (hc : n ≤ cap) : Rd w 32 (if cap = m then A else A.map (·.add (m * 32))) (n - m) (sv (L.drop m)) := Rd.drop_f (c := bv) hL.len h hm hc
theorem All32.take {L : List (List Nat)} (h : All32 L) (m : Nat) : All32 (L.take m) := fun x hx => h x (List.mem_of_mem_take hx)
theorem All32.drop {L : List (List Nat)} (h : All32 L) (m : Nat) : All32 (L.drop m) := fun x hx => h x (List.mem_of_mem_drop hx)
theorem made_flat {α : Type} {c : α → List Value} {x : α} {z : Array Value} (h : z.toList = c x) (n : Nat) : (madeCells z (n * z.size)).toList = (List.replicate n x).flatMap c := by
  have hl : ∀ y ∈ List.replicate n x, (c y).length = z.size := fun y hy => by rw [(List.mem_replicate.1 hy).2, ← h]; simp
  apply List.ext_getElem?
  intro j
  by_cases hj : j < n * z.size
  · have hs : 0 < z.size := by
      rcases Nat.eq_zero_or_pos z.size with h0 | h0
      · rw [h0] at hj; omega
      · exact h0
    have hd : j / z.size < n := (Nat.div_lt_iff_lt_mul hs).2 hj
    have hm : j % z.size < z.size := Nat.mod_lt _ hs
    have e := flatMap_at (c := c) hl (i := j / z.size) (j := j % z.size) (x := x) (by rw [List.getElem?_replicate, if_pos hd]) hm
    rw [show j / z.size * z.size + j % z.size = j by rw [Nat.mul_comm]; exact Nat.div_add_mod j z.size] at e
    rw [e, ← h]
    simp only [madeCells, Array.toList_map, List.getElem?_map, Array.toList_range, List.getElem?_range hj, Option.map_some, Array.getElem?_toList]
    rw [getElem!_pos z _ hm, Array.getElem?_eq_getElem hm]
  · rw [List.getElem?_eq_none (by rw [Array.length_toList, size_madeCells]; omega), List.getElem?_eq_none (by rw [flatMap_len hl, List.length_replicate]; omega)]
end
section
variable {P : Program} {ρ : Operand → Value} {d : Option Tmp} {x y : Operand} {t ty yt : TypeId} {ps : String} {af : Array Edge} {g : Option (Nat × Bool)} {w w0 : World} {k : IntKind} {ex : List Nat} {ks : List (Option Nat)} {pp : List (Option Obj → Prop)}
theorem e_bytesStr {A : Option Addr} {n c : Nat} {l : List Nat} {s e : TypeId} (hx : ρ x = .slice A n c) (hs : P.underlying s = some (.slice e)) (he : P.underlying e = some (.int .u8)) (ht : P.underlying t = some .string) (R : Rd w 1 A n (bv l)) :
    (execOp ρ { dst := d, op := .convert s t x, type := ty, pos := ps, after := af, guard := g }).run P w = .ok (.value (.string (strOf l))) w := by
  have hl : l.length = n := by simpa using R.1
  have key : (convert s t (.slice A n c)).run P w = .ok (.string (strOf l)) w := by
    rw [run_convert_bytes_string w s t e A n c hs he ht]
    cases A with
    | none =>
      have : l = [] := by
        cases l with
        | nil => rfl
        | cons a l => obtain ⟨ad, h, _⟩ := R.2 0 _ rfl; cases h
      subst this
      simp [Conv.bytesToString, strOf, strOfNums, ByteArray.empty, ByteArray.emptyWithCapacity]
      rfl
    | some a =>
      have hr := run_loadCells_list (P := P) w a (bv l) (fun j v hv => R.cell hv)
      rw [bv_length, hl] at hr
      have e1 : bv l = (l.map fun (x : Nat) => (x : Int)).map (Value.int .u8) := by simp [bv]
      rw [e1] at hr
      rw [run_bytesToString w a n c _ hr, foldl_push_bytes]
      simp [strOf, strOfNums, ByteArray.empty, ByteArray.emptyWithCapacity]
      rfl
  show ((do pure (.value (← convert s t (ρ x)))) : Sem Next).run P w = _
  rw [hx]
  simp only [Sem.run_bind, key, Result.andThen_ok, Sem.run_pure]
theorem e_eqlT {u v : List Nat} (hx : ρ x = .string (strOf u)) (hy : ρ y = .string (strOf v)) (hu : ∀ z ∈ u, z < 256) (hv : ∀ z ∈ v, z < 256) : (execOp ρ { dst := d, op := .binOp .eql t x y yt, type := ty, pos := ps, after := af, guard := g }).run P w = .ok (.value (.bool (decide (u = v)))) w := by
  rw [← strOf_beq hu hv]; exact e_eqlS hx hy
theorem e_neqT {u v : List Nat} (hx : ρ x = .string (strOf u)) (hy : ρ y = .string (strOf v)) (hu : ∀ z ∈ u, z < 256) (hv : ∀ z ∈ v, z < 256) : (execOp ρ { dst := d, op := .binOp .neq t x y yt, type := ty, pos := ps, after := af, guard := g }).run P w = .ok (.value (.bool (decide (¬ u = v)))) w := by
  rw [← strOf_bne hu hv]; exact e_neqS hx hy
/-- copy to the front of a block of its own -/
theorem d_copy0 {e : TypeId} {b dn dc m c u : Nat} {A : Option Addr} {cs : Array Value} {news : List Value} {bt : TypeId} (S : St w0 w ex ks pp) (i : Nat) (hk : ks[i]? = some (some b)) (hp : pp[i]? = some (Ex cs bt))
    (ht : P.underlying t = some (.slice e)) (hi : (P.info? e).map (·.size) = some 1) (hx : ρ x = .slice (some ⟨b, 0, none⟩) dn dc) (hy : ρ y = .slice A m c) (hr : Rd w 1 A m news) (h1 : ∀ u ∈ news, u.oneCell' = true) (hfit : min m dn ≤ cs.size) :
    Does P ρ { dst := d, op := .call { callee := .builtin .copy, args := #[x, y], argTypes := #[t, u] }, type := ty, pos := ps, after := af, guard := g } w
      fun v w' => v = .int .i64 ((min m dn : Nat) : Int) ∧ St w0 w' ex ks (pp.set i (Ex (news.take dn ++ cs.toList.drop (min m dn)).toArray bt)) := by
  have h := d_copy (P := P) (ρ := ρ) (d := d) (x := x) (y := y) (t := t) (ty := ty) (ps := ps) (af := af) (g := g) (u := u) (off := 0) S i hk hp ht hi (by rw [hx, add_zero]) hy hr h1 (by omega)
  simpa only [List.take_zero, List.nil_append, Nat.zero_add] using h
/-- '[]byte(s)' of a string that is known -/
theorem d_strBytes {s : ByteArray} {sr e : TypeId} (S : St w0 w ex ks pp) (l : List Nat) (hx : ρ x = .string s) (hs : P.underlying sr = some .string) (hd : P.underlying t = some (.slice e)) (he : P.underlying e = some (.int .u8)) (hl : s.data.toList.map (·.toNat) = l) :
    Does P ρ { dst := d, op := .convert sr t x, type := ty, pos := ps, after := af, guard := g } w fun v w' => ∃ b c, v = .slice (some ⟨b, 0, none⟩) l.length c ∧ l.length ≤ c ∧ St w0 w' ex (some b :: ks) (Fz l.length (bv l) :: pp) := by
  have hr := run_bytes_of_string (P := P) w sr t e s hs hd he
  have hsz : s.size = l.length := by
    rw [← hl, List.length_map, Array.length_toList]
    rfl
  have hrow : (bytesRow s (grownCap w s.size 0 e)).toList = bv l ++ List.replicate (grownCap w s.size 0 e - s.size) (.int .u8 0) := by
    unfold bytesRow
    rw [Array.toList_append, Array.toList_map, Array.toList_replicate, ← hl]
    simp [bv]
  have hge := grownCap_ge w s.size 0 e
  refine .inl ⟨_, _, ?_, w.heap.size, grownCap w s.size 0 e, rfl, ?_, S.drew.alloc (.cells (bytesRow s (grownCap w s.size 0 e)) e ((bytesRow s (grownCap w s.size 0 e)).size, (bytesRow s (grownCap w s.size 0 e)).size + 1)) _ ⟨by rw [bv_length], _, _, _, rfl, ?_, ?_⟩⟩
  · show ((do pure (.value (← convert sr t (ρ x)))) : Sem Next).run P w = _
    rw [hx]
    simp only [Sem.run_bind, hr, Result.andThen_ok, Sem.run_pure, hsz]
  · omega
  · rw [← Array.length_toList, hrow, List.length_append, bv_length]; omega
  · rw [hrow, ← bv_length l, List.take_left]
theorem bits_xor1 {a : Int} (h : 0 ≤ a ∧ a < 9223372036854775807) : bits .xor .i64 a 1 = xor1 a := by
  obtain ⟨n, rfl⟩ := Int.eq_ofNat_of_zero_le h.1
  show IntKind.i64.wrap ((BitVec.ofInt 64 (n : Int) ^^^ BitVec.ofInt 64 1).toNat : Int) = _
  have e1 : (BitVec.ofInt 64 1).toNat = 1 := by decide
  rw [BitVec.toNat_xor, ofInt_nat, e1, Nat.mod_eq_of_lt (by omega), nat_xor1, IntWalk.i64_in _ (by omega), xor1]
  omega
theorem e_xor1 {a : Int} (hx : ρ x = .int .i64 a) (hy : ρ y = .int .i64 1) (h : 0 ≤ a ∧ a < 9223372036854775807) : (execOp ρ { dst := d, op := .binOp .xor t x y yt, type := ty, pos := ps, after := af, guard := g }).run P w = .ok (.value (.int .i64 (xor1 a))) w :=
  e_int .xor hx hy fun w => by
    show (Op.intBits .xor .i64 a 1).run P w = _
    unfold Op.intBits
    exact congrArg (fun z => Result.ok (Value.int .i64 z) w) (bits_xor1 h)
/-- a row of n zero values -/
theorem d_makeN {α : Type} {c : α → List Value} {z0 : α} {e : TypeId} {size bytes : Nat} {z : Value} (S : St w0 w ex ks pp) (ht : P.underlying t = some (.slice e)) (he : El P e size bytes) (hz0 : Zv P e z) (h1 : z.cells.toList = c z0) (n : Nat) {kl kc : IntKind} (hx : ρ x = .int kl (n : Int)) (hy : ρ y = .int kc (n : Int)) (hb : bytes * n ≤ 281474976710656) (h63 : n ≤ maxLen) :
    Does P ρ { dst := d, op := .makeSlice t x y, type := ty, pos := ps, after := af, guard := g } w fun v w' => ∃ b, v = .slice (at_ (some b)) n n ∧ St w0 w' ex (some b :: ks) (Rw e size n n ((List.replicate n z0).flatMap c) :: pp) := by
  obtain ⟨⟨i, z', hi, hz, hsz, hby, hzs⟩, hpos⟩ := he
  have ez : z' = z := by
    have h := hz0 w
    simp [zeroValue, typeInfo, hi, hz] at h
    exact h
  subst ez
  have h9 : (n : Int) ≤ 9223372036854775807 := by unfold maxLen at h63; omega
  have hr := run_make (P := P) w t e i z' ht hi hz kl kc (n : Int) (n : Int) (by omega) (Int.le_refl _) (by rw [hby, ← Int.natCast_mul]; omega) h9
  have hm := made_flat (c := c) h1 n
  rw [hzs] at hm
  have hlen : ((List.replicate n z0).flatMap c).length = n * size := by rw [← hm, Array.length_toList, size_madeCells]
  refine .inl ⟨_, _, ?_, w.heap.size, rfl, S.alloc (.cells (madeCells z'.cells (n * size)) e) _ ⟨hlen, .inr ⟨_, rfl, Nat.le_refl _, h63, by rw [size_madeCells], by rw [hm, List.take_of_length_le (by omega)]⟩⟩⟩
  show ((do pure (.value (← Instr.makeSlice t (ρ x) (ρ y)))) : Sem Next).run P w = _
  rw [hx, hy]
  simp only [Sem.run_bind, hr, Result.andThen_ok, Sem.run_pure, Int.toNat_natCast, hsz]
  rfl
end
end Go.Proofs.Ytcgcjklpilbndaa.E

/- Slices that lie apart from blocks that a callee turns; bytes put together. It proves no statement by itself. -/
set_option linter.unusedSimpArgs false
set_option linter.unusedVariables false
namespace Go.Proofs.Ytcgcjklpilbndaa.E
open Go Go.RowKit
/-- what a slice shows lies in none of the blocks -/
def Off (A : Option Addr) (n : Nat) (bs : List Nat) : Prop := ∀ ad, A = some ad → 0 < n → ad.block ∉ bs
theorem Off.nil {A : Option Addr} {n : Nat} : Off A n [] := fun _ _ _ h => by cases h
theorem Off.none_ {n : Nat} {bs : List Nat} : Off none n bs := fun _ h => by cases h
theorem Off.zero {A : Option Addr} {bs : List Nat} : Off A 0 bs := fun _ _ h => absurd h (Nat.lt_irrefl 0)
theorem Off.le {A : Option Addr} {n m : Nat} {bs : List Nat} (h : Off A n bs) (hm : m ≤ n) : Off A m bs := fun ad e h0 => h ad e (by omega)
theorem Off.sl {A : Option Addr} {n m c k s : Nat} {bs : List Nat} (h : Off A n bs) (hm : m ≤ n) : Off (if c = k then A else A.map (·.add (k * s))) m bs := by
  intro ad e h0
  split at e
  · exact h ad e (by omega)
  · obtain ⟨a, ha, rfl⟩ := Option.map_eq_some_iff.1 e
    have hb : (a.add (k * s)).block = a.block := by unfold Addr.add; split <;> rfl
    rw [hb]
    exact h a ha (by omega)
section
variable {w0 w w' : World} {ex ex' : List Nat} {ks ks' : List (Option Nat)} {ps ps' : List (Option Obj → Prop)}
theorem St.rdOff (S : St w0 w ex ks ps) {s n : Nat} {A : Option Addr} {xs : List Value} (R : Rd w0 s A n xs) (h : Off A n ex) : Rd w s A n xs := by
  rcases Nat.eq_zero_or_pos n with h0 | h0
  · subst h0
    have : xs = [] := List.eq_nil_of_length_eq_zero (by rw [R.1, Nat.zero_mul])
    subst this
    exact Rd.nil _ _ _
  · exact R.keep S fun ad e => h ad e h0
theorem St.swap {a b : Option Nat} {p q : Option Obj → Prop} (S : St w0 w ex (a :: b :: ks) (p :: q :: ps)) : St w0 w ex (b :: a :: ks) (q :: p :: ps) := by
  let σ : Nat → Nat := fun i => match i with | 0 => 1 | 1 => 0 | i + 2 => i + 2
  have hk : ∀ i : Nat, (b :: a :: ks)[i]? = (a :: b :: ks)[σ i]? := fun i => by match i with | 0 => rfl | 1 => rfl | i + 2 => rfl
  have hp : ∀ i : Nat, (q :: p :: ps)[i]? = (p :: q :: ps)[σ i]? := fun i => by match i with | 0 => rfl | 1 => rfl | i + 2 => rfl
  have hm : ∀ x, x ∈ b :: a :: ks → x ∈ a :: b :: ks := fun x h => by simp only [List.mem_cons] at h ⊢; rcases h with h | h | h <;> simp [h]
  refine ⟨S.os, S.tape, S.output, S.size, S.old, fun i k r h h' => S.own (σ i) k r (by rw [← hk]; exact h) (by rw [← hp]; exact h'), fun x h => S.lt x (hm _ h), fun x h => S.fresh x (hm _ h), fun i j x h h' => ?_⟩
  have e := S.nodup (σ i) (σ j) x (by rw [← hk]; exact h) (by rw [← hk]; exact h')
  match i, j, e with
  | 0, 0, _ => rfl
  | 1, 1, _ => rfl
  | 0, 1, e => simp [σ] at e
  | 1, 0, e => simp [σ] at e
  | 0, j + 2, e => simp [σ] at e
  | 1, j + 2, e => simp [σ] at e
  | i + 2, 0, e => simp [σ] at e
  | i + 2, 1, e => simp [σ] at e
  | i + 2, j + 2, e => simpa [σ] using e
theorem St.offOld (S : St w0 w ex ks ps) (σ : List Nat) {s n : Nat} {A : Option Addr} {xs : List Value} (R : Rd w0 s A n xs) (hs : 0 < s) (h : Off A n ex) (hσ : (σ.all fun i => Nat.blt i ks.length) = true) : Off A n (exOf (σ.map fun i => ks.getD i none)) := by
  intro ad e h0 hm
  obtain ⟨i, hi, hk⟩ := List.mem_map.1 (mem_exOf.1 hm)
  have hlt : i < ks.length := by simpa [Nat.blt_eq] using List.all_eq_true.1 hσ i hi
  have hk' : some ad.block ∈ ks := by
    rw [List.getD_eq_getElem?_getD, List.getElem?_eq_getElem hlt] at hk
    rw [← hk]
    exact List.getElem_mem hlt
  obtain ⟨ad', e', hc⟩ := R.2 0 (xs[0]'(by rw [R.1]; exact Nat.mul_pos h0 hs)) (List.getElem?_eq_getElem _)
  rw [e] at e'
  cases e'
  have hlt0 := World.block_lt_of_cell? _ _ hc
  rw [add_zero] at hlt0
  rcases S.fresh _ hk' with h1 | h1
  · omega
  · exact h ad e h0 h1
theorem St.offRow (S : St w0 w ex ks ps) (j : Nat) (σ : List Nat) {n : Nat} {k : Option Nat} (hj : ks[j]? = some k) (hσ : (σ.all fun i => Nat.blt i ks.length && !Nat.beq i j) = true) : Off (at_ k) n (exOf (σ.map fun i => ks.getD i none)) := by
  intro ad e h0 hm
  obtain ⟨i, hi, hk⟩ := List.mem_map.1 (mem_exOf.1 hm)
  have hh := List.all_eq_true.1 hσ i hi
  simp only [Bool.and_eq_true, Nat.blt_eq, Bool.not_eq_true'] at hh
  have hij : ¬ i = j := fun e => by subst e; simp at hh
  rw [List.getD_eq_getElem?_getD, List.getElem?_eq_getElem hh.1] at hk
  cases k with
  | none => cases e
  | some b =>
    have e1 : ad = ⟨b, 0, none⟩ := by simpa using e.symm
    subst e1
    exact hij (S.nodup i j b (by rw [List.getElem?_eq_getElem hh.1]; exact congrArg some hk) hj)
theorem St.offBlk (S : St w0 w ex ks ps) (j : Nat) (σ : List Nat) {n b o : Nat} (hj : ks[j]? = some (some b)) (hσ : (σ.all fun i => Nat.blt i ks.length && !Nat.beq i j) = true) : Off (some ((⟨b, 0, none⟩ : Addr).add o)) n (exOf (σ.map fun i => ks.getD i none)) := by
  have h := S.offRow j σ (n := n) hj hσ
  intro ad e h0
  cases e
  have hb : ((⟨b, 0, none⟩ : Addr).add o).block = b := by unfold Addr.add; split <;> rfl
  rw [hb]
  exact h _ rfl h0
theorem St.offBlk0 (S : St w0 w ex ks ps) (j : Nat) (σ : List Nat) {n b : Nat} (hj : ks[j]? = some (some b)) (hσ : (σ.all fun i => Nat.blt i ks.length && !Nat.beq i j) = true) : Off (some (⟨b, 0, none⟩ : Addr)) n (exOf (σ.map fun i => ks.getD i none)) := S.offRow j σ (k := some b) hj hσ
end
section
variable {P : Program} {ρ : Operand → Value} {d : Option Tmp} {x y : Operand} {t ty yt : TypeId} {ps : String} {af : Array Edge} {g : Option (Nat × Bool)} {w w0 : World} {k : IntKind} {m n : Nat}
theorem bits_or8 {a b : Nat} (ha : a < 256) (hb : b < 256) : bits .or .u8 (a : Int) (b : Int) = ((a ||| b : Nat) : Int) := by
  have h := Nat.or_lt_two_pow (n := 8) ha hb
  show IntKind.u8.wrap ((BitVec.ofInt 8 (a : Int) ||| BitVec.ofInt 8 (b : Int)).toNat : Int) = _
  rw [BitVec.toNat_or, ofInt_nat, ofInt_nat, wrap8_nat, Nat.mod_eq_of_lt ha, Nat.mod_eq_of_lt hb, Nat.mod_eq_of_lt h]
theorem e_or8 (hx : ρ x = .int .u8 (m : Int)) (hy : ρ y = .int .u8 (n : Int)) (hm : m < 256) (hn : n < 256) : (execOp ρ { dst := d, op := .binOp .or t x y yt, type := ty, pos := ps, after := af, guard := g }).run P w = .ok (.value (.int .u8 ((m ||| n : Nat) : Int))) w :=
  e_int .or hx hy fun w => congrArg (fun z => Result.ok (Value.int .u8 z) w) (bits_or8 hm hn)
theorem bits_and8 {a b : Nat} (ha : a < 256) (hb : b < 256) : bits .and .u8 (a : Int) (b : Int) = ((a &&& b : Nat) : Int) := by
  have h : a &&& b < 256 := Nat.lt_of_le_of_lt Nat.and_le_left ha
  show IntKind.u8.wrap ((BitVec.ofInt 8 (a : Int) &&& BitVec.ofInt 8 (b : Int)).toNat : Int) = _
  rw [BitVec.toNat_and, ofInt_nat, ofInt_nat, wrap8_nat, Nat.mod_eq_of_lt ha, Nat.mod_eq_of_lt hb, Nat.mod_eq_of_lt h]
theorem e_and8 (hx : ρ x = .int .u8 (m : Int)) (hy : ρ y = .int .u8 (n : Int)) (hm : m < 256) (hn : n < 256) : (execOp ρ { dst := d, op := .binOp .and t x y yt, type := ty, pos := ps, after := af, guard := g }).run P w = .ok (.value (.int .u8 ((m &&& n : Nat) : Int))) w :=
  e_int .and hx hy fun w => congrArg (fun z => Result.ok (Value.int .u8 z) w) (bits_and8 hm hn)
theorem bits_or64 {a b : Nat} (ha : a < 18446744073709551616) (hb : b < 18446744073709551616) : bits .or .u64 (a : Int) (b : Int) = ((a ||| b : Nat) : Int) := by
  have h := Nat.or_lt_two_pow (n := 64) ha hb
  show IntKind.u64.wrap ((BitVec.ofInt 64 (a : Int) ||| BitVec.ofInt 64 (b : Int)).toNat : Int) = _
  rw [BitVec.toNat_or, ofInt_nat, ofInt_nat, wrapU64, Nat.mod_eq_of_lt ha, Nat.mod_eq_of_lt hb, Nat.mod_eq_of_lt h]
theorem e_or64 (hx : ρ x = .int .u64 (m : Int)) (hy : ρ y = .int .u64 (n : Int)) (hm : m < 18446744073709551616) (hn : n < 18446744073709551616) : (execOp ρ { dst := d, op := .binOp .or t x y yt, type := ty, pos := ps, after := af, guard := g }).run P w = .ok (.value (.int .u64 ((m ||| n : Nat) : Int))) w :=
  e_int .or hx hy fun w => congrArg (fun z => Result.ok (Value.int .u64 z) w) (bits_or64 hm hn)
theorem e_shlU64 {yk : IntKind} (n : Nat) (hx : ρ x = .int .u64 (m : Int)) (hy : ρ y = .int yk (n : Int)) (hn : n ≤ 64) : (execOp ρ { dst := d, op := .binOp .shl t x y yt, type := ty, pos := ps, after := af, guard := g }).run P w = .ok (.value (.int .u64 (((m <<< n) % 18446744073709551616 : Nat) : Int))) w :=
  run_bin (by
    intro w
    rw [hx, hy]
    have h : min n 64 = n := by omega
    simp only [binOp, Op.shift, Int.toNat_natCast, IntKind.bits, h]
    rw [if_neg (by omega)]
    simp only [Sem.run_pure, Nat.shiftLeft_eq]
    have e : ((m : Int) * 2 ^ n) = ((m * 2 ^ n : Nat) : Int) := by simp
    rw [e, wrapU64]) (by intro w; rw [hx]; rfl)
end
theorem or128 {x : Nat} (h : x < 256) : x ||| 128 = x % 128 + 128 := by
  have e : x = x / 128 * 128 + x % 128 := by omega
  have h1 : x / 128 < 2 := by omega
  have key : ∀ y : Nat, y < 128 → (y ||| 128 = y + 128) ∧ ((128 + y) ||| 128 = y + 128) := by decide
  have h2 := key (x % 128) (Nat.mod_lt _ (by decide))
  rcases (by omega : x / 128 = 0 ∨ x / 128 = 1) with h3 | h3
  · rw [show x ||| 128 = (x % 128) ||| 128 by rw [show x % 128 = x by omega]]; exact h2.1
  · rw [show x ||| 128 = (128 + x % 128) ||| 128 by rw [show 128 + x % 128 = x by omega]]; exact h2.2
/-! numbers as bytes -/
def vnum (v : Nat) : List Nat := if h : v < 128 then [v] else (v % 128 + 128) :: vnum (v / 128)
termination_by v
decreasing_by omega
theorem vnum_small {v : Nat} (h : v < 128) : vnum v = [v] := by rw [vnum, dif_pos h]
theorem vnum_big {v : Nat} (h : ¬ v < 128) : vnum v = (v % 128 + 128) :: vnum (v / 128) := by rw [vnum, dif_neg h]
theorem vnum_len : ∀ (k v : Nat), v < 128 ^ (k + 1) → (vnum v).length ≤ k + 1
  | 0, v, h => by rw [vnum_small (by simpa using h)]; simp
  | k + 1, v, h => by
    by_cases hv : v < 128
    · rw [vnum_small hv]; simp
    · rw [vnum_big hv, List.length_cons]
      have := vnum_len k (v / 128) (by rw [Nat.div_lt_iff_lt_mul (by decide)]; rw [Nat.pow_succ] at h; exact h)
      omega
theorem vnum_lt : ∀ (v : Nat), ∀ x ∈ vnum v, x < 256 := by
  intro v
  induction v using Nat.strongRecOn with
  | _ v ih =>
    intro x hx
    by_cases hv : v < 128
    · rw [vnum_small hv] at hx; simp at hx; omega
    · rw [vnum_big hv] at hx
      rcases List.mem_cons.1 hx with h | h
      · omega
      · exact ih (v / 128) (by omega) x h
@[irreducible] def num (a : Int) : List Nat := vnum (a.toNat % 18446744073709551616)
theorem num_len (a : Int) : (num a).length ≤ 10 := by
  unfold num
  exact vnum_len 9 _ (Nat.lt_of_lt_of_le (Nat.mod_lt _ (by decide) : a.toNat % 18446744073709551616 < 18446744073709551616) (by decide))
theorem num_lt (a : Int) : ∀ x ∈ num a, x < 256 := by unfold num; exact vnum_lt _
def nums (l : List Int) : List Nat := l.flatMap num
theorem nums_take (xs : List Int) {g : Nat} (h : g < xs.length) : nums (xs.take (g + 1)) = nums (xs.take g) ++ num (xs.getD g 0) := by
  rw [List.take_add_one, List.getElem?_eq_getElem h, List.getD_eq_getElem?_getD, List.getElem?_eq_getElem h]
  unfold nums
  rw [List.flatMap_append]
  simp
theorem nums_len (l : List Int) : (nums l).length ≤ 10 * l.length := by
  induction l with
  | nil => simp [nums]
  | cons a l ih =>
    have := num_len a
    simp only [nums, List.flatMap_cons, List.length_append, List.length_cons] at ih ⊢
    omega
section
variable {w0 w : World} {ex : List Nat} {ks : List (Option Nat)} {ps : List (Option Obj → Prop)}
theorem St.pen {b : Nat} {k : Option Nat} {n c : Nat} {xs : List Value} {T e : TypeId} {l : List Nat} (S : St w0 w ex (some b :: k :: ks) (Ex (cat [[.slice (at_ k) n c]]).toArray T :: Rw e 1 n c xs :: ps)) (h : xs = bv l) :
    St w0 w ex (some b :: k :: ks) (Ex (cat [[.slice (at_ k) l.length c]]).toArray T :: Rw e 1 l.length c (bv l) :: ps) := by
  have h1 := (S.own 1 _ _ rfl rfl).1
  subst h
  rw [bv_length, Nat.mul_one] at h1
  subst h1
  exact S
end
end Go.Proofs.Ytcgcjklpilbndaa.E

/- Arguments opened to cells: what a reading tells of them. It proves no statement by itself. -/
set_option linter.unusedSimpArgs false
set_option linter.unusedVariables false
namespace Go.Proofs.Ytcgcjklpilbndaa.E
open Go Go.RowKit Go.WideShapes Go.ChangeShapes Go.Deep
section
variable {H : Type} {enc : TypeId × Value → H} {P : Program} {w : World} {base : Nat} {spare : Nat → Bool} {held : Bool} {α : Type}
/-- Whatever is read as of type t is laid as 'c' lays some x that is 'ok'. -/
def Opens (enc : TypeId × Value → H) (P : Program) (w : World) (base : Nat) (spare : Nat → Bool) (held : Bool) (t : TypeId) (c : α → List Value) (ok : α → Prop) : Prop :=
  ∀ (fuel : Nat) (cs : List Value) (y : DataW H × List MemPlace), DataW.trod enc P w base spare held fuel t cs = some y → ∃ x, cs = c x ∧ ok x
theorem u8_range {n : Int} (h : (Lit.int .u8 n).wf = true) : 0 ≤ n ∧ n < 256 := by
  have : 0 ≤ n ∧ n ≤ 255 := by simpa [Lit.wf, IntKind.min, IntKind.max, IntKind.signed, IntKind.bits] using h
  omega
theorem i64_range {n : Int} (h : (Lit.int .i64 n).wf = true) : -9223372036854775808 ≤ n ∧ n ≤ 9223372036854775807 := by
  simpa [Lit.wf, IntKind.min, IntKind.max, IntKind.signed, IntKind.bits] using h
theorem opens_u8 {t : TypeId} (ht : P.underlying t = some (.int .u8)) : Opens enc P w base spare held t (fun x : Nat => [Value.int .u8 (x : Int)]) (· < 256) := by
  intro fuel cs y h
  obtain ⟨n, rfl, _, hw⟩ := DataW.trod_int ht h
  have := u8_range hw
  exact ⟨n.toNat, by show [Value.int .u8 n] = [Value.int .u8 ((n.toNat : Nat) : Int)]; rw [Int.toNat_of_nonneg this.1], by omega⟩
theorem opens_i64 {t : TypeId} (ht : P.underlying t = some (.int .i64)) : Opens enc P w base spare held t (fun x : Int => [Value.int .i64 x]) (fun x => -9223372036854775808 ≤ x ∧ x ≤ 9223372036854775807) := by
  intro fuel cs y h
  obtain ⟨n, rfl, _, hw⟩ := DataW.trod_int ht h
  exact ⟨n, rfl, i64_range hw⟩
theorem opens_bool {t : TypeId} (ht : P.underlying t = some .bool) : Opens enc P w base spare held t (fun x : Bool => [Value.bool x]) (fun _ => True) := by
  intro fuel cs y h
  obtain ⟨n, rfl, _⟩ := DataW.trod_bool ht h
  exact ⟨n, rfl, trivial⟩
theorem chunks (s : Nat) (c : α → List Value) (Pk : List Value → α → Prop) : ∀ (n : Nat) (cs : List Value), cs.length = n * s → (∀ i, i < n → ∃ x, (cs.drop (i * s)).take s = c x ∧ Pk ((cs.drop (i * s)).take s) x) → ∃ xs : List α, xs.length = n ∧ cs = xs.flatMap c ∧ ∀ x ∈ xs, ∃ l, Pk l x
  | 0, cs, hl, _ => ⟨[], rfl, List.eq_nil_of_length_eq_zero (by simpa using hl), by simp⟩
  | n + 1, cs, hl, h => by
    obtain ⟨x, hx, hp⟩ := h 0 (by omega)
    simp only [Nat.zero_mul, List.drop_zero] at hx hp
    obtain ⟨xs, h1, h2, h3⟩ := chunks s c Pk n (cs.drop s) (by rw [List.length_drop, hl, Nat.add_mul]; omega) (fun i hi => by
      obtain ⟨y, hy, hq⟩ := h (i + 1) (by omega)
      refine ⟨y, ?_, ?_⟩
      · rw [List.drop_drop, show s + i * s = (i + 1) * s by rw [Nat.add_mul]; omega]; exact hy
      · rw [List.drop_drop, show s + i * s = (i + 1) * s by rw [Nat.add_mul]; omega]; exact hq)
    refine ⟨x :: xs, by simp [h1], ?_, ?_⟩
    · rw [List.flatMap_cons, ← h2, ← hx, List.take_append_drop]
    · intro y hy
      rcases List.mem_cons.1 hy with rfl | hy
      · exact ⟨_, hp⟩
      · exact h3 y hy
theorem opens_arr {t e : TypeId} {n s : Nat} {c : α → List Value} {ok : α → Prop} (ht : P.underlying t = some (.array n e)) (hs : P.cellsOf e = s) (hc : P.cellsOf t = n * s) (h : ∀ base spare held, Opens enc P w base spare held e c ok) :
    Opens enc P w base spare held t (fun xs : List α => xs.flatMap c) (fun xs => xs.length = n ∧ ∀ x ∈ xs, ok x) := by
  intro fuel cs y hy
  obtain ⟨xs, m, _, _, hlen, hxl, hi⟩ := DataW.trod_array ht hy
  rw [hs] at hi
  obtain ⟨ys, h1, h2, h3⟩ := chunks s c (fun _ x => ok x) n cs (by rw [hlen, hc]) (fun i hin => by
    have := hi i hin
    rw [List.getElem?_eq_getElem (by omega)] at this
    obtain ⟨x, hx, ho⟩ := h _ _ _ _ _ _ this
    exact ⟨x, hx, ho⟩)
  exact ⟨ys, h2, h1, fun x hx => (h3 x hx).elim fun _ h => h⟩
theorem bv_map (l : List Nat) : l.flatMap (fun x : Nat => [Value.int .u8 (x : Int)]) = bv l := by
  induction l with
  | nil => rfl
  | cons x l ih => rw [List.flatMap_cons, ih]; rfl
theorem iv_map (l : List Int) : l.flatMap (fun x : Int => [Value.int .i64 x]) = iv l := by
  induction l with
  | nil => rfl
  | cons x l ih => rw [List.flatMap_cons, ih]; rfl
def Bytes (l : List Nat) : Prop := ∀ x ∈ l, x < 256
theorem opens_sum {t e : TypeId} {n : Nat} (ht : P.underlying t = some (.array n e)) (he : P.underlying e = some (.int .u8)) (hs : P.cellsOf e = 1) (hc : P.cellsOf t = n) : Opens enc P w base spare held t bv (fun l => l.length = n ∧ Bytes l) := by
  intro fuel cs y h
  obtain ⟨x, e1, h1, h2⟩ := opens_arr ht hs (by rw [hc, Nat.mul_one]) (fun _ _ _ => opens_u8 he) fuel cs y h
  exact ⟨x, e1.trans (bv_map x), h1, h2⟩
/-- a slice that came in -/
theorem open_row {r : Reach} {b0 : Nat} {t e : TypeId} {s : Nat} {v : Value} {d : DataW H} {p : List MemPlace} {c : α → List Value} {ok : α → Prop} (ht : P.underlying t = some (.slice e)) (hs : P.cellsOf e = s) (hv : Value.okWide P w r b0 t v)
    (h : DataW.Trod enc P w base spare held t v d p) (ho : ∀ base spare held, Opens enc P w base spare held e c ok) (hl : ∀ x, ok x → (c x).length = s) :
    ∃ (A : Option Addr) (n cap : Nat) (xs : List α), v = .slice A n cap ∧ xs.length = n ∧ n ≤ cap ∧ cap ≤ maxLen ∧ (∀ x ∈ xs, ok x) ∧ Rd w s A n (xs.flatMap c) := by
  obtain ⟨A, n, cap, rfl⟩ := okWide_slice ht hv
  obtain ⟨fuel, hf⟩ := h
  rcases open_slice ht hf with ⟨e0, _⟩ | ⟨a, len, cap', m, k, D, Pl, e0, hb, h1, h2, hm, hx, hi⟩
  · simp [Value.cells] at e0
    obtain ⟨rfl, rfl, rfl⟩ := e0
    exact ⟨none, 0, 0, [], rfl, rfl, Nat.le_refl _, Nat.zero_le _, by simp, Rd.nil _ _ _⟩
  · simp [Value.cells] at e0
    obtain ⟨rfl, rfl, rfl⟩ := e0
    have hle : n ≤ m := by rw [hm]; split <;> omega
    have key : ∀ n', n' ≤ n → ∃ xs : List α, xs.length = n' ∧ (∀ x ∈ xs, ok x) ∧ ∀ i x, xs[i]? = some x → ∀ j u, (c x)[j]? = some u → w.cell? (a.add (i * s + j)) = some u := by
      intro n'
      induction n' with
      | zero => intro _; exact ⟨[], rfl, by simp, by simp⟩
      | succ n' ih =>
        intro hn'
        obtain ⟨xs, e1, e2, e3⟩ := ih (by omega)
        obtain ⟨cs', hc', ht'⟩ := hi n' (by omega)
        rw [hs] at hc'
        obtain ⟨_, hcl, hat⟩ := World.cells?_some hc'
        obtain ⟨x, rfl, hox⟩ := ho _ _ _ _ _ _ ht'
        refine ⟨xs ++ [x], by simp [e1], fun y hy => ?_, fun i y hy j u hu => ?_⟩
        · rcases List.mem_append.1 hy with hy | hy
          · exact e2 y hy
          · rw [List.mem_singleton.1 hy]; exact hox
        · rcases Nat.lt_or_ge i n' with hi' | hi'
          · rw [List.getElem?_append_left (by omega)] at hy
            exact e3 i y hy j u hu
          · rw [List.getElem?_append_right (by omega)] at hy
            have hi0 : i - xs.length = 0 := by
              have := (List.getElem?_eq_some_iff.1 hy).1
              simp at this
              omega
            rw [hi0] at hy
            simp at hy
            subst hy
            have hj := (List.getElem?_eq_some_iff.1 hu).1
            have := hat j (by omega)
            rw [show i = n' by omega, ← E.add_add, this]
            exact hu
    obtain ⟨xs, e1, e2, e3⟩ := key n (Nat.le_refl _)
    refine ⟨some a, n, cap, xs, rfl, e1, h1, h2, e2, ?_, fun j u hu => ⟨a, rfl, ?_⟩⟩
    · rw [flatMap_len (s := s) fun x hx => hl x (e2 x hx), e1]
    · have hj := (List.getElem?_eq_some_iff.1 hu).1
      rw [flatMap_len (s := s) fun x hx => hl x (e2 x hx), e1] at hj
      have hs0 : 0 < s := by
        rcases Nat.eq_zero_or_pos s with h0 | h0
        · subst h0; omega
        · exact h0
      have hi' : j / s < n := (Nat.div_lt_iff_lt_mul hs0).2 hj
      have hx : xs[j / s]? = some (xs[j / s]'(by omega)) := List.getElem?_eq_getElem (by omega)
      have hjm : j % s < s := Nat.mod_lt _ hs0
      have hdm : j / s * s + j % s = j := by rw [Nat.mul_comm]; exact Nat.div_add_mod j s
      have := flatMap_at (s := s) (c := c) (fun x hx => hl x (e2 x hx)) hx hjm
      rw [hdm] at this
      rw [this] at hu
      have h3 := e3 _ _ hx _ _ hu
      rwa [hdm] at h3
/-- an array or a struct by value -/
theorem open_val {r : Reach} {b0 : Nat} {t : TypeId} {v : Value} {d : DataW H} {p : List MemPlace} {c : α → List Value} {ok : α → Prop} (hagg : ∃ cs, v = .agg cs)
    (h : DataW.Trod enc P w base spare held t v d p) (ho : Opens enc P w base spare held t c ok) : ∃ x, v = .agg (c x).toArray ∧ ok x := by
  obtain ⟨cs, rfl⟩ := hagg
  obtain ⟨fuel, hf⟩ := h
  obtain ⟨x, e, hx⟩ := ho _ _ _ hf
  refine ⟨x, ?_, hx⟩
  rw [← e]
  rfl
end
end Go.Proofs.Ytcgcjklpilbndaa.E

/- What a reader of bytes does, as functions on lists; where its slice lies. It proves no statement by itself. -/
set_option linter.unusedSimpArgs false
set_option linter.unusedVariables false
namespace Go.Proofs.Ytcgcjklpilbndaa.E
open Go Go.RowKit
def rFail (x e : Int) : Int := if e = 0 then x else e
def rn : Nat → Nat → Nat → List Nat → Int ⊕ (Nat × List Nat)
  | 0, _, _, _ => .inl 5
  | _ + 1, _, _, [] => .inl 2
  | r + 1, i, v, c :: l => if c < 128 then (if c = 0 ∧ 0 < i then .inl 4 else .inr (v + c % 128 * 128 ^ i, l)) else rn r (i + 1) (v + c % 128 * 128 ^ i) l
def rNum (e : Int) (l : List Nat) : Int × Int × List Nat :=
  if e = 0 then (match rn 9 0 0 l with | .inl x => (0, x, l) | .inr (v, l') => ((v : Int), 0, l')) else (0, e, l)
def rUpto (m e : Int) (l : List Nat) : Int × Int × List Nat :=
  let e2 := if m < (rNum e l).1 then rFail 5 (rNum e l).2.1 else (rNum e l).2.1
  (if e2 = 0 then (rNum e l).1 else 0, e2, (rNum e l).2.2)
def rRaw (k e : Int) (l : List Nat) : List Nat × Int × List Nat :=
  if e = 0 then (if k < 0 ∨ (l.length : Int) < k then ([], 2, l) else (l.take k.toNat, 0, l.drop k.toNat)) else ([], e, l)
def rText (m e : Int) (l : List Nat) : List Nat × Int × List Nat := rRaw (rUpto m e l).1 (rUpto m e l).2.1 (rUpto m e l).2.2
def sum32 (b : List Nat) : List Nat := if b.length = 32 then b else zsum
def rSum (e : Int) (l : List Nat) : List Nat × Int × List Nat := (sum32 (rRaw 32 e l).1, (rRaw 32 e l).2)
def rDone (e : Int) (l : List Nat) : Int := if e = 0 ∧ 0 < l.length then 3 else e
theorem length_sum32 (b : List Nat) : (sum32 b).length = 32 := by unfold sum32; split <;> simp_all [zsum]
theorem rNum_no {e : Int} (h : ¬ e = 0) (l : List Nat) : rNum e l = (0, e, l) := by unfold rNum; rw [if_neg h]
theorem rNum_inl {l : List Nat} {x : Int} (h : rn 9 0 0 l = .inl x) : rNum 0 l = (0, x, l) := by unfold rNum; rw [if_pos rfl, h]
theorem rNum_inr {l l' : List Nat} {v : Nat} (h : rn 9 0 0 l = .inr (v, l')) : rNum 0 l = ((v : Int), 0, l') := by unfold rNum; rw [if_pos rfl, h]
theorem drop_cons {l : List Nat} {g : Nat} (h : g < l.length) : l.drop g = l.getD g 0 :: l.drop (g + 1) := by
  rw [List.drop_eq_getElem_cons h, List.getD_eq_getElem?_getD, List.getElem?_eq_getElem h]; rfl
theorem and127 (c : Nat) : c &&& 127 = c % 128 := Nat.and_two_pow_sub_one_eq_mod c 7
theorem pow128 {g : Nat} (h : g ≤ 8) : 128 ^ g ≤ 72057594037927936 := by
  have : 128 ^ g ≤ 128 ^ 8 := Nat.pow_le_pow_right (by decide) h
  exact Nat.le_trans this (by decide)
theorem mul128 {c g : Nat} (h : g ≤ 8) : c % 128 * 128 ^ g ≤ 9151314442816847872 := by
  have h1 := pow128 h
  have h2 : c % 128 ≤ 127 := by omega
  exact Nat.le_trans (Nat.mul_le_mul h2 h1) (by decide)
theorem or_step {v c g : Nat} (hv : v < 128 ^ g) (hg : g ≤ 8) : v ||| ((((c &&& 127) % 18446744073709551616) <<< (7 * g)) % 18446744073709551616) = v + c % 128 * 128 ^ g := by
  have h1 := mul128 (c := c) hg
  have e1 : 2 ^ (7 * g) = 128 ^ g := by rw [Nat.pow_mul]
  rw [and127, Nat.mod_eq_of_lt (a := c % 128) (by omega), Nat.shiftLeft_eq, e1, Nat.mod_eq_of_lt (by omega), Nat.or_comm]
  have := Nat.shiftLeft_add_eq_or_of_lt (b := v) (i := 7 * g) (by rw [e1]; exact hv) (c % 128)
  rw [Nat.shiftLeft_eq, e1] at this
  omega
theorem next128 {v c g : Nat} (hv : v < 128 ^ g) : v + c % 128 * 128 ^ g < 128 ^ (g + 1) := by
  have h2 : c % 128 ≤ 127 := by omega
  have := Nat.mul_le_mul_right (128 ^ g) h2
  rw [Nat.pow_succ]; omega
structure EyeTo (A : Option Addr) (c : Nat) (l : List Nat) (A1 : Option Addr) (c1 : Nat) (l1 : List Nat) : Prop where
  suf : l1 <:+ l
  cap : l1.length ≤ c1
  rd : ∀ w, Rd w 1 A l.length (bv l) → Rd w 1 A1 l1.length (bv l1)
  off : ∀ bs, Off A l.length bs → Off A1 l1.length bs
theorem EyeTo.refl {A : Option Addr} {c : Nat} {l : List Nat} (h : l.length ≤ c) : EyeTo A c l A c l := ⟨List.suffix_refl _, h, fun _ h => h, fun _ h => h⟩
theorem EyeTo.trans {A A1 A2 : Option Addr} {c c1 c2 : Nat} {l l1 l2 : List Nat} (h : EyeTo A c l A1 c1 l1) (h' : EyeTo A1 c1 l1 A2 c2 l2) : EyeTo A c l A2 c2 l2 :=
  ⟨h'.suf.trans h.suf, h'.cap, fun w R => h'.rd w (h.rd w R), fun b o => h'.off b (h.off b o)⟩
theorem EyeTo.drop {A : Option Addr} {c m : Nat} {l : List Nat} (hm : m ≤ l.length) (hc : l.length ≤ c) : EyeTo A c l (if c = m then A else A.map (·.add (m * 1))) (c - m) (l.drop m) :=
  ⟨List.drop_suffix _ _, by rw [List.length_drop]; omega, fun w R => by
    have h := R.drop hm hc
    rw [bv_drop, Nat.mul_one] at h
    rw [List.length_drop]
    simpa [Nat.mul_one] using h, fun b o => o.sl (by rw [List.length_drop]; omega)⟩
theorem EyeTo.by_ {A A1 : Option Addr} {c c1 : Nat} {l l1 : List Nat} (h : EyeTo A c l A1 c1 l1) (hB : Bytes l) : Bytes l1 := fun x hx => hB x (h.suf.subset hx)
theorem EyeTo.len {A A1 : Option Addr} {c c1 m : Nat} {l l1 : List Nat} (h : EyeTo A c l A1 c1 l1) (hl : l.length ≤ m) : l1.length ≤ m := Nat.le_trans h.suf.length_le hl
theorem bytes_getD {l : List Nat} (h : Bytes l) (i : Nat) : l.getD i 0 < 256 := by
  rw [List.getD_eq_getElem?_getD]
  rcases Nat.lt_or_ge i l.length with h1 | h1
  · rw [List.getElem?_eq_getElem h1]; exact h _ (List.getElem_mem h1)
  · rw [List.getElem?_eq_none h1]; decide
theorem rRaw_len {k e e1 : Int} {l b l1 : List Nat} (h : rRaw k e l = (b, e1, l1)) : b = [] ∨ b.length = k.toNat := by
  unfold rRaw at h
  split at h
  · split at h
    · simp only [Prod.mk.injEq] at h; exact .inl h.1.symm
    · rename_i h1
      simp only [Prod.mk.injEq] at h
      right
      rw [← h.1, List.length_take]; omega
  · simp only [Prod.mk.injEq] at h; exact .inl h.1.symm
theorem copy_sum32 {b : List Nat} (h : b = [] ∨ b.length = (32 : Int).toNat) : ((bv b).take 32 ++ (bv zsum).toArray.toList.drop (min b.length 32)).toArray = (bv (sum32 b)).toArray := by
  have e32 : (32 : Int).toNat = 32 := rfl
  rw [e32] at h
  unfold sum32
  rcases h with rfl | h
  · rw [if_neg (by decide)]; simp [bv]
  · rw [if_pos h]
    have h1 : (bv b).take 32 = bv b := List.take_of_length_le (by simp [h])
    have h2 : (bv zsum).drop (min b.length 32) = [] := List.drop_of_length_le (by simp [zsum, h])
    show ((bv b).take 32 ++ (bv zsum).drop (min b.length 32)).toArray = _
    rw [h1, h2, List.append_nil]
section
variable {w0 w : World} {ex : List Nat} {ks : List (Option Nat)} {ps : List (Option Obj → Prop)}
/-- an entry's cells, told in other words -/
theorem St.set1Ex (S : St w0 w ex ks ps) (i : Nat) {cs cs' : Array Value} {t : TypeId} (hp : ps[i]? = some (Ex cs t)) (h : cs = cs') : St w0 w ex ks (ps.set i (Ex cs' t)) := by
  subst h
  exact S.mono i _ _ hp fun _ h => h
end
theorem rUpto_of {m e a e1 e2 : Int} {l l1 : List Nat} (h : rNum e l = (a, e1, l1)) (h2 : e2 = if m < a then rFail 5 e1 else e1) : rUpto m e l = (if e2 = 0 then a else 0, e2, l1) := by
  unfold rUpto; rw [h, h2]
theorem rText_of {m e a e1 e2 : Int} {l l1 b l2 : List Nat} (h : rUpto m e l = (a, e1, l1)) (h2 : rRaw a e1 l1 = (b, e2, l2)) : rText m e l = (b, e2, l2) := by
  unfold rText; rw [h]; exact h2
theorem rSum_of {e e1 : Int} {l b l1 : List Nat} (h : rRaw 32 e l = (b, e1, l1)) : rSum e l = (sum32 b, e1, l1) := by
  unfold rSum; rw [h]
end Go.Proofs.Ytcgcjklpilbndaa.E

/- Equality of structs, part by part. It proves no statement by itself. -/
set_option linter.unusedSimpArgs false
set_option linter.unusedVariables false
namespace Go.Proofs.Ytcgcjklpilbndaa.E
open Go Go.RowKit
def EqV (P : Program) (j : Nat) (t : TypeId) (u v : Value) (p : Prop) : Prop := ∀ (d : Nat) (w : World), ∃ r : Bool, (Op.equalIn (d + j) t u v).run P w = .ok r w ∧ (r = true ↔ p)
def EqFd (P : Program) (j : Nat) (xs ys : Array Value) (fs : List Field) (p : Prop) : Prop := ∀ (d : Nat) (w : World), ∃ r : Bool, (Op.eqFields (d + j) xs ys fs).run P w = .ok r w ∧ (r = true ↔ p)
section
variable {P : Program} {t : TypeId} {j : Nat}
theorem EqV.int {k : IntKind} {a b : Int} (h : P.underlying t = some (.int k)) : EqV P 1 t (.int k a) (.int k b) (a = b) := fun d w =>
  ⟨a == b, by rw [run_equalIn_int w d t k k a b h], by simp⟩
theorem EqV.bool {a b : Bool} (h : P.underlying t = some .bool) : EqV P 1 t (.bool a) (.bool b) (a = b) := fun d w =>
  ⟨a == b, by rw [run_equalIn_bool w d t a b h], by simp⟩
theorem EqV.sum {n : Nat} {a b : List Nat} (h : EqT P 2 t (IntT .u8 n)) (ha : a.length = n) (hb : b.length = n) : EqV P 2 t (.agg (bv a).toArray) (.agg (bv b).toArray) (a = b) := fun d w => by
  obtain ⟨r, hr, hiff⟩ := h d w _ _ (IntT.bv a ha) (IntT.bv b hb)
  exact ⟨r, hr, by rw [hiff, bv_eq]⟩
theorem EqV.more {u v : Value} {p : Prop} (k : Nat) (h : EqV P j t u v p) : EqV P (k + j) t u v p := fun d w => by
  obtain ⟨r, hr, hiff⟩ := h (d + k) w
  exact ⟨r, by rw [← Nat.add_assoc]; exact hr, hiff⟩
theorem EqV.iff {u v : Value} {p q : Prop} (h : EqV P j t u v p) (hq : p ↔ q) : EqV P j t u v q := fun d w => by
  obtain ⟨r, hr, hiff⟩ := h d w
  exact ⟨r, hr, hiff.trans hq⟩
theorem run_part1 {l : List (List Value)} {off a : Nat} {v : Value} (w : World) (ha : Ag P t false) (hl : l[a]? = some [v]) (ho : (cat (l.take a)).length = off) : (part t (cat l).toArray off).run P w = .ok v w := by
  have ha' := ha w
  have h2 : (cat l)[off]? = some v := by
    rw [cat_at hl, List.append_assoc, List.getElem?_append_right (by omega), show off - (cat (l.take a)).length = 0 by omega]; rfl
  simp [part, ha', h2]
theorem run_partA {l : List (List Value)} {off a s : Nat} {xs : List Value} (w : World) (ha : Ag P t true) (hs : Sz P t s) (hl : l[a]? = some xs) (ho : (cat (l.take a)).length = off) (hn : xs.length = s) : (part t (cat l).toArray off).run P w = .ok (.agg xs.toArray) w := by
  have ha' := ha w
  have hs' := hs w
  have h2 : (cat l).toArray.extract off (off + s) = xs.toArray := by
    apply Array.ext'
    rw [Array.toList_extract, List.extract_eq_take_drop]
    show ((cat l).drop off).take _ = _
    rw [cat_at hl, show off + s - off = s by omega, List.append_assoc, ← ho, List.drop_left, ← hn, List.take_left]
  unfold part
  simp only [Sem.run_bind, ha', hs', Result.andThen_ok, if_true, Sem.run_pure, h2]
theorem eqf_nil {xs ys : Array Value} : EqFd P j xs ys [] True := fun d w => ⟨true, by simp [Op.eqFields], by simp⟩
theorem eqf_cons {xs ys : Array Value} {f : Field} {fs : List Field} {u v : Value} {p q : Prop} (hn : (f.name != "_") = true) (hx : ∀ w, (part f.type xs f.offset).run P w = .ok u w) (hy : ∀ w, (part f.type ys f.offset).run P w = .ok v w) (h : EqV P j f.type u v p) (hr : EqFd P j xs ys fs q) :
    EqFd P j xs ys (f :: fs) (p ∧ q) := fun d w => by
  obtain ⟨r, h1, h2⟩ := h d w
  obtain ⟨r', h3, h4⟩ := hr d w
  have hn' : f.name ≠ "_" := by simpa using hn
  simp only [Op.eqFields, if_pos hn', Sem.run_bind, hx, hy, h1, Result.andThen_ok]
  cases r with
  | false => exact ⟨false, by simp, by simp [← h2]⟩
  | true => exact ⟨r', by simpa using h3, by simp [← h2, h4]⟩
theorem EqV.struct {xs ys : Array Value} {p : Prop} {fs : Array Field} (ht : P.underlying t = some (.struct fs)) (hp : P.stoodInHeld t = false) (h : EqFd P j xs ys fs.toList p) : EqV P (j + 1) t (.agg xs) (.agg ys) p := fun d w => by
  have hf : P.fieldsOf t = fs := by simp [Program.fieldsOf, ht]
  obtain ⟨r, hr, hiff⟩ := h d w
  exact ⟨r, by rw [show d + (j + 1) = (d + j) + 1 from rfl, run_equalIn_struct w (d + j) t xs ys (by rw [hf]; exact ht) hp, hf]; exact hr, hiff⟩
variable {ρ : Operand → Value} {d : Option Tmp} {x y : Operand} {ty yt : TypeId} {ps : String} {af : Array Edge} {g : Option (Nat × Bool)} {w : World}
theorem e_eqlV {u v : Array Value} {p : Prop} [Decidable p] (h : EqV P j t (.agg u) (.agg v) p) (hj : j ≤ 10000) (hg : P.eqGuardType P.depth t = false) (hx : ρ x = .agg u) (hy : ρ y = .agg v) :
    (execOp ρ { dst := d, op := .binOp .eql t x y yt, type := ty, pos := ps, after := af, guard := g }).run P w = .ok (.value (.bool (decide p))) w := by
  refine run_bin (fun w => ?_) (fun w => ?_)
  · obtain ⟨r', h', hiff⟩ := h (10000 - j) w
    rw [show 10000 - j + j = 10000 by omega] at h'
    have : r' = decide p := by cases r' <;> by_cases hp : p <;> simp_all
    subst this
    rw [hx, hy]
    exact bin_eql h' fun op h => by subst h; rfl
  · rw [hx, hy]
    simp [eqGuard, hg]
theorem e_neqV {u v : Array Value} {p : Prop} [Decidable p] (h : EqV P j t (.agg u) (.agg v) p) (hj : j ≤ 10000) (hg : P.eqGuardType P.depth t = false) (hx : ρ x = .agg u) (hy : ρ y = .agg v) :
    (execOp ρ { dst := d, op := .binOp .neq t x y yt, type := ty, pos := ps, after := af, guard := g }).run P w = .ok (.value (.bool (decide (¬ p)))) w := by
  refine run_bin (fun w => ?_) (fun w => ?_)
  · obtain ⟨r', h', hiff⟩ := h (10000 - j) w
    rw [show 10000 - j + j = 10000 by omega] at h'
    have : r' = decide p := by cases r' <;> by_cases hp : p <;> simp_all
    subst this
    rw [hx, hy]
    have := bin_neq h' fun op h => by subst h; rfl
    rwa [show (!decide p) = decide (¬ p) by by_cases hp : p <;> simp [hp]] at this
  · rw [hx, hy]
    simp [eqGuard, hg]
end
section
variable {P : Program} {ρ : Operand → Value} {d : Option Tmp} {x y : Operand} {t ty : TypeId} {ps : String} {af : Array Edge} {g : Option (Nat × Bool)} {w w0 : World} {ex : List Nat} {ks : List (Option Nat)} {pp : List (Option Obj → Prop)}
/-- a literal of numbers -/
theorem d_litI {e : TypeId} {n : Nat} {parts : List (Nat × Operand)} {l : List Int} {z : Value} (S : St w0 w ex ks pp) (hu : P.underlying t = some (.slice e)) (hs : Sz P e 1) (hz : Zv P e z) (hsz : z.cells.size = 1)
    (hp : parts.map (fun q => (q.1, ρ q.2)) = (List.range' 0 n).zip (iv l)) (hn : l.length = n) (hlim : n ≤ 16777216) :
    Does P ρ { dst := d, op := .buildSlice t n parts.toArray, type := ty, pos := ps, after := af, guard := g } w
      fun v w' => ∃ b, v = .slice (at_ (some b)) n n ∧ St w0 w' ex (some b :: ks) (Rw e 1 n n (iv l) :: pp) :=
  d_lit1 S hu hs hz hsz hp (by simpa using hn) (List.all_eq_true.2 (iv_one l)) hlim
end
/-! ### What is written is read, and nothing else -/
theorem rn_vnum : ∀ (r i v x : Nat) (rest : List Nat), x < 128 ^ (r + 1) → (0 < i → 0 < x) → rn (r + 1) i v (vnum x ++ rest) = .inr (v + x * 128 ^ i, rest)
  | r, i, v, x, rest, h, hi => by
    by_cases hx : x < 128
    · rw [vnum_small hx]
      show (if x < 128 then (if x = 0 ∧ 0 < i then _ else _) else _) = _
      rw [if_pos hx, if_neg (by omega), Nat.mod_eq_of_lt hx]
      rfl
    · rw [vnum_big hx]
      show (if x % 128 + 128 < 128 then _ else rn r (i + 1) (v + (x % 128 + 128) % 128 * 128 ^ i) (vnum (x / 128) ++ rest)) = _
      rw [if_neg (by omega)]
      match r, h with
      | 0, h => simp at h; omega
      | r + 1, h =>
        rw [rn_vnum r (i + 1) _ (x / 128) rest (by rw [Nat.div_lt_iff_lt_mul (by decide)]; rw [Nat.pow_succ] at h; exact h) (by omega)]
        congr 2
        have e : x = x / 128 * 128 + x % 128 := by omega
        rw [show (x % 128 + 128) % 128 = x % 128 by omega, Nat.pow_succ, Nat.add_assoc]
        congr 1
        conv => rhs; rw [e]
        rw [Nat.add_mul, Nat.mul_comm (128 ^ i) 128, ← Nat.mul_assoc, Nat.add_comm]
theorem rn_inv : ∀ (r i v : Nat) (l : List Nat) (v' : Nat) (l' : List Nat), Bytes l → rn r i v l = .inr (v', l') → ∃ x, l = vnum x ++ l' ∧ v' = v + x * 128 ^ i ∧ x < 128 ^ r ∧ (0 < i → 0 < x)
  | 0, i, v, l, v', l', _, h => by cases h
  | r + 1, i, v, [], v', l', _, h => by cases h
  | r + 1, i, v, c :: l, v', l', hB, h => by
    have hc : c < 256 := hB c (by simp)
    change (if c < 128 then (if c = 0 ∧ 0 < i then _ else _) else _) = _ at h
    by_cases h1 : c < 128
    · rw [if_pos h1] at h
      by_cases h2 : c = 0 ∧ 0 < i
      · rw [if_pos h2] at h; cases h
      · rw [if_neg h2] at h
        simp only [Sum.inr.injEq, Prod.mk.injEq] at h
        refine ⟨c, by rw [vnum_small h1, ← h.2]; rfl, by rw [← h.1, Nat.mod_eq_of_lt h1], ?_, by omega⟩
        have : 0 < 128 ^ r := Nat.pow_pos (by decide)
        rw [Nat.pow_succ]; omega
    · rw [if_neg h1] at h
      obtain ⟨x, e1, e2, e3, e4⟩ := rn_inv r (i + 1) _ l v' l' (fun y hy => hB y (by simp [hy])) h
      have hx := e4 (by omega)
      refine ⟨x * 128 + c % 128, ?_, ?_, ?_, by omega⟩
      · rw [vnum_big (by omega), show (x * 128 + c % 128) % 128 + 128 = c by omega, show (x * 128 + c % 128) / 128 = x by omega, e1]; rfl
      · rw [e2, Nat.pow_succ, Nat.add_mul, Nat.mul_comm (128 ^ i) 128, ← Nat.mul_assoc, Nat.add_assoc, Nat.add_comm (c % 128 * 128 ^ i)]
      · rw [Nat.pow_succ]; omega
theorem rNum_num {a : Int} (h : 0 ≤ a ∧ a < 9223372036854775808) (l : List Nat) : rNum 0 (num a ++ l) = (a, 0, l) := by
  have e1 : a.toNat % 18446744073709551616 = a.toNat := Nat.mod_eq_of_lt (by omega)
  have h9 : rn 9 0 0 (num a ++ l) = .inr (0 + a.toNat * 128 ^ 0, l) := by
    unfold num
    rw [e1]
    exact rn_vnum 8 0 0 a.toNat l (by have e : 128 ^ (8 + 1) = 9223372036854775808 := by decide
                                      rw [e]; omega) (fun h => absurd h (by decide))
  rw [rNum_inr h9]
  simp
  omega
theorem rNum_inv {e a : Int} {l l' : List Nat} (hB : Bytes l) (h : rNum e l = (a, 0, l')) : e = 0 ∧ l = num a ++ l' ∧ 0 ≤ a ∧ a < 9223372036854775808 := by
  unfold rNum at h
  by_cases he : e = 0
  · rw [if_pos he] at h
    refine ⟨he, ?_⟩
    cases hr : rn 9 0 0 l with
    | inl x =>
      rw [hr] at h
      simp only [Prod.mk.injEq] at h
      have : ∀ (r i v : Nat) (l : List Nat), rn r i v l ≠ .inl 0 := by
        intro r
        induction r with
        | zero => intro i v l h; simp [rn] at h
        | succ r ih =>
          intro i v l h
          cases l with
          | nil => simp [rn] at h
          | cons c l =>
            simp only [rn] at h
            split at h
            · split at h
              · simp at h
              · cases h
            · exact ih _ _ _ h
      rw [h.2.1] at hr
      exact absurd hr (this _ _ _ _)
    | inr q =>
      obtain ⟨v, l2⟩ := q
      rw [hr] at h
      simp only [Prod.mk.injEq] at h
      obtain ⟨x, e1, e2, e3, _⟩ := rn_inv 9 0 0 l v l2 hB hr
      have e4 : 128 ^ 9 = 9223372036854775808 := by decide
      rw [e4] at e3
      obtain ⟨h1, _, h3⟩ := h
      subst h3
      have ev : v = x := by rw [e2]; simp
      subst ev
      refine ⟨?_, by omega, by omega⟩
      rw [e1]
      unfold num
      rw [← h1, Int.toNat_natCast, Nat.mod_eq_of_lt (by omega)]
  · rw [if_neg he] at h
    simp only [Prod.mk.injEq] at h
    exact absurd h.2.1 he
theorem rUpto_num {a m : Int} (h : 0 ≤ a ∧ a ≤ m) (hm : m < 9223372036854775808) (l : List Nat) : rUpto m 0 (num a ++ l) = (a, 0, l) := by
  rw [rUpto_of (e2 := 0) (rNum_num ⟨h.1, by omega⟩ l) (by rw [if_neg (by omega)]), if_pos rfl]
theorem rUpto_inv {m e a : Int} {l l' : List Nat} (hB : Bytes l) (h : rUpto m e l = (a, 0, l')) : e = 0 ∧ l = num a ++ l' ∧ 0 ≤ a ∧ a ≤ m ∧ a < 9223372036854775808 := by
  unfold rUpto at h
  simp only [Prod.mk.injEq] at h
  obtain ⟨h1, h2, h3⟩ := h
  rw [if_pos h2] at h1
  have hle : ¬ m < (rNum e l).1 ∧ (rNum e l).2.1 = 0 := by
    split at h2
    · unfold rFail at h2
      split at h2
      · cases h2
      · exact absurd h2 (by assumption)
    · exact ⟨by assumption, h2⟩
  have h5 : rNum e l = (a, 0, l') := by
    rw [← h1, ← h3, ← hle.2]
  obtain ⟨e1, e2, e3, e4⟩ := rNum_inv hB h5
  exact ⟨e1, e2, e3, by rw [← h1]; omega, e4⟩
theorem rSum_sum {s : List Nat} (h : s.length = 32) (l : List Nat) : rSum 0 (s ++ l) = (s, 0, l) := by
  have e : rRaw 32 0 (s ++ l) = (s, 0, l) := by
    unfold rRaw
    rw [if_pos rfl, if_neg (by rw [List.length_append]; omega), show (32 : Int).toNat = s.length by rw [h]; rfl, List.take_left, List.drop_left]
  rw [rSum_of e]
  unfold sum32
  rw [if_pos h]
theorem rRaw_inv {k e : Int} {l b l' : List Nat} (h : rRaw k e l = (b, 0, l')) : e = 0 ∧ l = b ++ l' ∧ b.length = k.toNat ∧ 0 ≤ k := by
  unfold rRaw at h
  split at h
  · rename_i he
    split at h
    · simp at h
    · rename_i h1
      simp only [Prod.mk.injEq] at h
      exact ⟨he, by rw [← h.1, ← h.2.2, List.take_append_drop], by rw [← h.1, List.length_take]; omega, by omega⟩
  · rename_i he
    simp only [Prod.mk.injEq] at h
    exact absurd h.2.1 he
theorem rSum_inv {e : Int} {l s l' : List Nat} (h : rSum e l = (s, 0, l')) : e = 0 ∧ l = s ++ l' ∧ s.length = 32 := by
  unfold rSum at h
  simp only [Prod.mk.injEq] at h
  have h2 : rRaw 32 e l = ((rRaw 32 e l).1, 0, l') := by rw [← h.2]
  obtain ⟨e1, e2, e3, _⟩ := rRaw_inv h2
  have e4 : (rRaw 32 e l).1.length = 32 := e3
  have e5 : s = (rRaw 32 e l).1 := by rw [← h.1]; unfold sum32; rw [if_pos e4]
  exact ⟨e1, by rw [e5]; exact e2, by rw [e5]; exact e4⟩
theorem rText_text {s : List Nat} {m : Int} (h : (s.length : Int) ≤ m) (hm : m < 9223372036854775808) (l : List Nat) : rText m 0 (num s.length ++ (s ++ l)) = (s, 0, l) := by
  rw [rText_of (rUpto_num ⟨by omega, h⟩ hm (s ++ l)) (b := s) (e2 := 0) (l2 := l)]
  unfold rRaw
  rw [if_pos rfl, if_neg (by rw [List.length_append]; omega), Int.toNat_natCast, List.take_left, List.drop_left]
theorem rText_inv {m e : Int} {l s l' : List Nat} (hB : Bytes l) (h : rText m e l = (s, 0, l')) : e = 0 ∧ l = num s.length ++ (s ++ l') ∧ (s.length : Int) ≤ m := by
  unfold rText at h
  obtain ⟨e1, e2, e3, e4⟩ := rRaw_inv h
  have h2 : rUpto m e l = ((rUpto m e l).1, 0, (rUpto m e l).2.2) := by rw [← e1]
  obtain ⟨f1, f2, f3, f4, _⟩ := rUpto_inv hB h2
  have f5 : (rUpto m e l).1 = (s.length : Int) := by omega
  rw [f5] at f2 f4
  exact ⟨f1, by rw [← e2]; exact f2, f4⟩
theorem rText_bytes {m e e1 : Int} {l s l' : List Nat} (hB : Bytes l) (h : rText m e l = (s, e1, l')) : Bytes s := by
  have hs : ∀ (k e : Int) (l : List Nat), Bytes l → Bytes (rRaw k e l).1 := by
    intro k e l hB
    unfold rRaw
    split
    · split
      · intro x hx; simp at hx
      · intro x hx; exact hB x (List.mem_of_mem_take hx)
    · intro x hx; simp at hx
  have hu : ∀ (r i v : Nat) (l : List Nat) (v' : Nat) (l' : List Nat), rn r i v l = .inr (v', l') → ∀ x ∈ l', x ∈ l := by
    intro r
    induction r with
    | zero => intro i v l v' l' h; cases h
    | succ r ih =>
      intro i v l v' l' h
      cases l with
      | nil => cases h
      | cons c l =>
        change (if c < 128 then (if c = 0 ∧ 0 < i then _ else _) else _) = _ at h
        split at h
        · split at h
          · cases h
          · simp only [Sum.inr.injEq, Prod.mk.injEq] at h
            intro x hx
            rw [← h.2] at hx
            exact List.mem_cons_of_mem _ hx
        · intro x hx
          exact List.mem_cons_of_mem _ (ih _ _ _ _ _ h x hx)
  have h2 : Bytes (rUpto m e l).2.2 := by
    show Bytes (rNum e l).2.2
    unfold rNum
    split
    · cases hr : rn 9 0 0 l with
      | inl x => exact hB
      | inr q => exact fun x hx => hB x (hu _ _ _ _ _ _ hr x hx)
    · exact hB
  have := hs (rUpto m e l).1 (rUpto m e l).2.1 _ h2
  unfold rText at h
  rw [h] at this
  exact this
theorem rDone_nil : rDone 0 [] = 0 := rfl
theorem rDone_inv {e : Int} {l : List Nat} (h : rDone e l = 0) : e = 0 ∧ l = [] := by
  unfold rDone at h
  split at h
  · cases h
  · rename_i h1
    exact ⟨h, by cases l with
      | nil => rfl
      | cons a l => exact absurd ⟨h, by simp⟩ h1⟩
end Go.Proofs.Ytcgcjklpilbndaa.E

/- Closed facts on the seat's types and functions, by program. It proves no statement by itself. -/
namespace Go.Proofs.Ytcgcjklpilbndaa
open Go E
theorem sz2 : Sz Try.prog 2 1 := sz_of (by kernel_rfl)
theorem zv2 : Zv Try.prog 2 (.int .i64 0) := zv_of (by kernel_rfl)
theorem el2 : El Try.prog 2 1 8 := el_of (by kernel_rfl) (by decide)
theorem ag2 : Ag Try.prog 2 false := ag_of false Try.underlying2 rfl
theorem sz3 : Sz Try.prog 3 1 := sz_of (by kernel_rfl)
theorem zv3 : Zv Try.prog 3 (.int .i64 0) := zv_of (by kernel_rfl)
theorem el3 : El Try.prog 3 1 8 := el_of (by kernel_rfl) (by decide)
theorem ag3 : Ag Try.prog 3 false := ag_of false Try.underlying3 rfl
theorem sz4 : Sz Try.prog 4 1 := sz_of (by kernel_rfl)
theorem zv4 : Zv Try.prog 4 (.bool false) := zv_of (by kernel_rfl)
theorem el4 : El Try.prog 4 1 1 := el_of (by kernel_rfl) (by decide)
theorem ag4 : Ag Try.prog 4 false := ag_of false Try.underlying4 rfl
theorem sz5 : Sz Try.prog 5 1 := sz_of (by kernel_rfl)
theorem zv5 : Zv Try.prog 5 (.int .u8 0) := zv_of (by kernel_rfl)
theorem el5 : El Try.prog 5 1 1 := el_of (by kernel_rfl) (by decide)
theorem ag5 : Ag Try.prog 5 false := ag_of false Try.underlying5 rfl
theorem sz9 : Sz Try.prog 9 1 := sz_of (by kernel_rfl)
theorem zv9 : Zv Try.prog 9 (.string ⟨#[]⟩) := zv_of (by kernel_rfl)
theorem el9 : El Try.prog 9 1 16 := el_of (by kernel_rfl) (by decide)
theorem ag9 : Ag Try.prog 9 false := ag_of false Try.underlying9 rfl
theorem sz12 : Sz Try.prog 12 1 := sz_of (by kernel_rfl)
theorem zv12 : Zv Try.prog 12 (.int .u64 0) := zv_of (by kernel_rfl)
theorem el12 : El Try.prog 12 1 8 := el_of (by kernel_rfl) (by decide)
theorem ag12 : Ag Try.prog 12 false := ag_of false Try.underlying12 rfl
theorem sz21 : Sz Try.prog 21 1 := sz_of (by kernel_rfl)
theorem zv21 : Zv Try.prog 21 (.int .i32 0) := zv_of (by kernel_rfl)
theorem el21 : El Try.prog 21 1 4 := el_of (by kernel_rfl) (by decide)
theorem ag21 : Ag Try.prog 21 false := ag_of false Try.underlying21 rfl
theorem sz22 : Sz Try.prog 22 1 := sz_of (by kernel_rfl)
theorem zv22 : Zv Try.prog 22 (.slice none 0 0) := zv_of (by kernel_rfl)
theorem el22 : El Try.prog 22 1 24 := el_of (by kernel_rfl) (by decide)
theorem ag22 : Ag Try.prog 22 false := ag_of false Try.underlying22 rfl
theorem sz23 : Sz Try.prog 23 1 := sz_of (by kernel_rfl)
theorem zv23 : Zv Try.prog 23 (.slice none 0 0) := zv_of (by kernel_rfl)
theorem el23 : El Try.prog 23 1 24 := el_of (by kernel_rfl) (by decide)
theorem ag23 : Ag Try.prog 23 false := ag_of false Try.underlying23 rfl
theorem sz24 : Sz Try.prog 24 1 := sz_of (by kernel_rfl)
theorem zv24 : Zv Try.prog 24 (.slice none 0 0) := zv_of (by kernel_rfl)
theorem el24 : El Try.prog 24 1 24 := el_of (by kernel_rfl) (by decide)
theorem ag24 : Ag Try.prog 24 false := ag_of false Try.underlying24 rfl
theorem sz27 : Sz Try.prog 27 1 := sz_of (by kernel_rfl)
theorem zv27 : Zv Try.prog 27 (.pointer none) := zv_of (by kernel_rfl)
theorem el27 : El Try.prog 27 1 8 := el_of (by kernel_rfl) (by decide)
theorem ag27 : Ag Try.prog 27 false := ag_of false Try.underlying27 rfl
theorem sz28 : Sz Try.prog 28 1 := sz_of (by kernel_rfl)
theorem zv28 : Zv Try.prog 28 (.map none) := zv_of (by kernel_rfl)
theorem el28 : El Try.prog 28 1 8 := el_of (by kernel_rfl) (by decide)
theorem ag28 : Ag Try.prog 28 false := ag_of false Try.underlying28 rfl
theorem sz31 : Sz Try.prog 31 1 := sz_of (by kernel_rfl)
theorem zv31 : Zv Try.prog 31 (.slice none 0 0) := zv_of (by kernel_rfl)
theorem el31 : El Try.prog 31 1 24 := el_of (by kernel_rfl) (by decide)
theorem ag31 : Ag Try.prog 31 false := ag_of false Try.underlying31 rfl
theorem sz34 : Sz Try.prog 34 1 := sz_of (by kernel_rfl)
theorem zv34 : Zv Try.prog 34 (.int .i64 0) := zv_of (by kernel_rfl)
theorem el34 : El Try.prog 34 1 8 := el_of (by kernel_rfl) (by decide)
theorem ag34 : Ag Try.prog 34 false := ag_of false Try.underlying34 rfl
theorem sz47 : Sz Try.prog 47 1 := sz_of (by kernel_rfl)
theorem zv47 : Zv Try.prog 47 (.slice none 0 0) := zv_of (by kernel_rfl)
theorem el47 : El Try.prog 47 1 24 := el_of (by kernel_rfl) (by decide)
theorem ag47 : Ag Try.prog 47 false := ag_of false Try.underlying47 rfl
theorem sz57 : Sz Try.prog 57 1 := sz_of (by kernel_rfl)
theorem zv57 : Zv Try.prog 57 (.pointer none) := zv_of (by kernel_rfl)
theorem el57 : El Try.prog 57 1 8 := el_of (by kernel_rfl) (by decide)
theorem ag57 : Ag Try.prog 57 false := ag_of false Try.underlying57 rfl
theorem sz63 : Sz Try.prog 63 1 := sz_of (by kernel_rfl)
theorem zv63 : Zv Try.prog 63 (.pointer none) := zv_of (by kernel_rfl)
theorem el63 : El Try.prog 63 1 8 := el_of (by kernel_rfl) (by decide)
theorem ag63 : Ag Try.prog 63 false := ag_of false Try.underlying63 rfl
theorem sz68 : Sz Try.prog 68 1 := sz_of (by kernel_rfl)
theorem zv68 : Zv Try.prog 68 (.slice none 0 0) := zv_of (by kernel_rfl)
theorem el68 : El Try.prog 68 1 24 := el_of (by kernel_rfl) (by decide)
theorem ag68 : Ag Try.prog 68 false := ag_of false Try.underlying68 rfl
theorem sz69 : Sz Try.prog 69 1 := sz_of (by kernel_rfl)
theorem zv69 : Zv Try.prog 69 (.pointer none) := zv_of (by kernel_rfl)
theorem el69 : El Try.prog 69 1 8 := el_of (by kernel_rfl) (by decide)
theorem ag69 : Ag Try.prog 69 false := ag_of false Try.underlying69 rfl
theorem sz70 : Sz Try.prog 70 1 := sz_of (by kernel_rfl)
theorem zv70 : Zv Try.prog 70 (.slice none 0 0) := zv_of (by kernel_rfl)
theorem el70 : El Try.prog 70 1 24 := el_of (by kernel_rfl) (by decide)
theorem ag70 : Ag Try.prog 70 false := ag_of false Try.underlying70 rfl
theorem sz73 : Sz Try.prog 73 1 := sz_of (by kernel_rfl)
theorem zv73 : Zv Try.prog 73 (.pointer none) := zv_of (by kernel_rfl)
theorem el73 : El Try.prog 73 1 8 := el_of (by kernel_rfl) (by decide)
theorem ag73 : Ag Try.prog 73 false := ag_of false Try.underlying73 rfl
theorem sz105 : Sz Try.prog 105 1 := sz_of (by kernel_rfl)
theorem zv105 : Zv Try.prog 105 (.slice none 0 0) := zv_of (by kernel_rfl)
theorem el105 : El Try.prog 105 1 24 := el_of (by kernel_rfl) (by decide)
theorem ag105 : Ag Try.prog 105 false := ag_of false Try.underlying105 rfl
theorem sz108 : Sz Try.prog 108 1 := sz_of (by kernel_rfl)
theorem zv108 : Zv Try.prog 108 (.pointer none) := zv_of (by kernel_rfl)
theorem el108 : El Try.prog 108 1 8 := el_of (by kernel_rfl) (by decide)
theorem ag108 : Ag Try.prog 108 false := ag_of false Try.underlying108 rfl
theorem sz121 : Sz Try.prog 121 1 := sz_of (by kernel_rfl)
theorem zv121 : Zv Try.prog 121 (.slice none 0 0) := zv_of (by kernel_rfl)
theorem el121 : El Try.prog 121 1 24 := el_of (by kernel_rfl) (by decide)
theorem ag121 : Ag Try.prog 121 false := ag_of false Try.underlying121 rfl
theorem sz130 : Sz Try.prog 130 1 := sz_of (by kernel_rfl)
theorem zv130 : Zv Try.prog 130 (.int .u64 0) := zv_of (by kernel_rfl)
theorem el130 : El Try.prog 130 1 8 := el_of (by kernel_rfl) (by decide)
theorem ag130 : Ag Try.prog 130 false := ag_of false Try.underlying130 rfl
theorem sz131 : Sz Try.prog 131 1 := sz_of (by kernel_rfl)
theorem zv131 : Zv Try.prog 131 (.int .u64 0) := zv_of (by kernel_rfl)
theorem el131 : El Try.prog 131 1 8 := el_of (by kernel_rfl) (by decide)
theorem ag131 : Ag Try.prog 131 false := ag_of false Try.underlying131 rfl
theorem sz139 : Sz Try.prog 139 1 := sz_of (by kernel_rfl)
theorem zv139 : Zv Try.prog 139 (.int .u32 0) := zv_of (by kernel_rfl)
theorem el139 : El Try.prog 139 1 4 := el_of (by kernel_rfl) (by decide)
theorem ag139 : Ag Try.prog 139 false := ag_of false Try.underlying139 rfl
theorem sz143 : Sz Try.prog 143 1 := sz_of (by kernel_rfl)
theorem zv143 : Zv Try.prog 143 (.pointer none) := zv_of (by kernel_rfl)
theorem el143 : El Try.prog 143 1 8 := el_of (by kernel_rfl) (by decide)
theorem ag143 : Ag Try.prog 143 false := ag_of false Try.underlying143 rfl
theorem sz13 : Sz Try.prog 13 2 := sz_of (by kernel_rfl)
def zl13 : List Value := [.string ⟨#[]⟩] ++ [.int .u64 0]
theorem zv13 : Zv Try.prog 13 (.agg zl13.toArray) := zv_of (by kernel_rfl)
theorem el13 : El Try.prog 13 2 24 := el_of (by kernel_rfl) (by decide)
theorem gd13 : Try.prog.eqGuardType Try.prog.depth 13 = false := by kernel_rfl
theorem ag13 : Ag Try.prog 13 true := ag_of true Try.underlying13 rfl
theorem sz29 : Sz Try.prog 29 2 := sz_of (by kernel_rfl)
def zl29 : List Value := [.slice none 0 0] ++ [.map none]
theorem zv29 : Zv Try.prog 29 (.agg zl29.toArray) := zv_of (by kernel_rfl)
theorem el29 : El Try.prog 29 2 32 := el_of (by kernel_rfl) (by decide)
theorem ag29 : Ag Try.prog 29 true := ag_of true Try.underlying29 rfl
theorem sz30 : Sz Try.prog 30 2 := sz_of (by kernel_rfl)
def zl30 : List Value := [.slice none 0 0] ++ [.map none]
theorem zv30 : Zv Try.prog 30 (.agg zl30.toArray) := zv_of (by kernel_rfl)
theorem el30 : El Try.prog 30 2 32 := el_of (by kernel_rfl) (by decide)
theorem ag30 : Ag Try.prog 30 true := ag_of true Try.underlying30 rfl
theorem sz32 : Sz Try.prog 32 3 := sz_of (by kernel_rfl)
def zl32 : List Value := [.slice none 0 0] ++ [.map none] ++ [.slice none 0 0]
theorem zv32 : Zv Try.prog 32 (.agg zl32.toArray) := zv_of (by kernel_rfl)
theorem el32 : El Try.prog 32 3 56 := el_of (by kernel_rfl) (by decide)
theorem ag32 : Ag Try.prog 32 true := ag_of true Try.underlying32 rfl
theorem sz33 : Sz Try.prog 33 3 := sz_of (by kernel_rfl)
def zl33 : List Value := [.slice none 0 0] ++ [.map none] ++ [.slice none 0 0]
theorem zv33 : Zv Try.prog 33 (.agg zl33.toArray) := zv_of (by kernel_rfl)
theorem el33 : El Try.prog 33 3 56 := el_of (by kernel_rfl) (by decide)
theorem ag33 : Ag Try.prog 33 true := ag_of true Try.underlying33 rfl
theorem sz39 : Sz Try.prog 39 3 := sz_of (by kernel_rfl)
def zl39 : List Value := [.int .i64 0, .int .i64 0, .int .i64 0]
theorem zv39 : Zv Try.prog 39 (.agg zl39.toArray) := zv_of (by kernel_rfl)
theorem el39 : El Try.prog 39 3 24 := el_of (by kernel_rfl) (by decide)
theorem gd39 : Try.prog.eqGuardType Try.prog.depth 39 = false := by kernel_rfl
theorem ag39 : Ag Try.prog 39 true := ag_of true Try.underlying39 rfl
theorem sz40 : Sz Try.prog 40 3 := sz_of (by kernel_rfl)
def zl40 : List Value := [.int .i64 0, .int .i64 0, .int .i64 0]
theorem zv40 : Zv Try.prog 40 (.agg zl40.toArray) := zv_of (by kernel_rfl)
theorem el40 : El Try.prog 40 3 24 := el_of (by kernel_rfl) (by decide)
theorem gd40 : Try.prog.eqGuardType Try.prog.depth 40 = false := by kernel_rfl
theorem ag40 : Ag Try.prog 40 true := ag_of true Try.underlying40 rfl
theorem sz43 : Sz Try.prog 43 32 := sz_of (by kernel_rfl)
def zl43 : List Value := List.replicate 32 (.int .u8 0)
theorem zv43 : Zv Try.prog 43 (.agg zl43.toArray) := zv_of (by kernel_rfl)
theorem el43 : El Try.prog 43 32 32 := el_of (by kernel_rfl) (by decide)
theorem gd43 : Try.prog.eqGuardType Try.prog.depth 43 = false := by kernel_rfl
theorem eq43 : EqT Try.prog 2 43 (IntT .u8 32) := EqT.ints Try.underlying43 Try.underlying5 ag5 sz5
theorem ag43 : Ag Try.prog 43 true := ag_of true Try.underlying43 rfl
theorem sz44 : Sz Try.prog 44 32 := sz_of (by kernel_rfl)
def zl44 : List Value := List.replicate 32 (.int .u8 0)
theorem zv44 : Zv Try.prog 44 (.agg zl44.toArray) := zv_of (by kernel_rfl)
theorem el44 : El Try.prog 44 32 32 := el_of (by kernel_rfl) (by decide)
theorem gd44 : Try.prog.eqGuardType Try.prog.depth 44 = false := by kernel_rfl
theorem eq44 : EqT Try.prog 2 44 (IntT .u8 32) := EqT.ints Try.underlying44 Try.underlying5 ag5 sz5
theorem ag44 : Ag Try.prog 44 true := ag_of true Try.underlying44 rfl
theorem sz45 : Sz Try.prog 45 67 := sz_of (by kernel_rfl)
def zl45 : List Value := [.int .i64 0, .int .i64 0, .int .i64 0] ++ List.replicate 64 (.int .u8 0)
theorem zv45 : Zv Try.prog 45 (.agg zl45.toArray) := zv_of (by kernel_rfl)
theorem el45 : El Try.prog 45 67 88 := el_of (by kernel_rfl) (by decide)
theorem gd45 : Try.prog.eqGuardType Try.prog.depth 45 = false := by kernel_rfl
theorem ag45 : Ag Try.prog 45 true := ag_of true Try.underlying45 rfl
theorem sz46 : Sz Try.prog 46 67 := sz_of (by kernel_rfl)
def zl46 : List Value := [.int .i64 0, .int .i64 0, .int .i64 0] ++ List.replicate 64 (.int .u8 0)
theorem zv46 : Zv Try.prog 46 (.agg zl46.toArray) := zv_of (by kernel_rfl)
theorem el46 : El Try.prog 46 67 88 := el_of (by kernel_rfl) (by decide)
theorem gd46 : Try.prog.eqGuardType Try.prog.depth 46 = false := by kernel_rfl
theorem ag46 : Ag Try.prog 46 true := ag_of true Try.underlying46 rfl
theorem sz53 : Sz Try.prog 53 68 := sz_of (by kernel_rfl)
def zl53 : List Value := [.int .i64 0, .int .i64 0, .int .i64 0] ++ List.replicate 64 (.int .u8 0) ++ [.slice none 0 0]
theorem zv53 : Zv Try.prog 53 (.agg zl53.toArray) := zv_of (by kernel_rfl)
theorem el53 : El Try.prog 53 68 112 := el_of (by kernel_rfl) (by decide)
theorem ag53 : Ag Try.prog 53 true := ag_of true Try.underlying53 rfl
theorem sz54 : Sz Try.prog 54 68 := sz_of (by kernel_rfl)
def zl54 : List Value := [.int .i64 0, .int .i64 0, .int .i64 0] ++ List.replicate 64 (.int .u8 0) ++ [.slice none 0 0]
theorem zv54 : Zv Try.prog 54 (.agg zl54.toArray) := zv_of (by kernel_rfl)
theorem el54 : El Try.prog 54 68 112 := el_of (by kernel_rfl) (by decide)
theorem ag54 : Ag Try.prog 54 true := ag_of true Try.underlying54 rfl
theorem sz55 : Sz Try.prog 55 1 := sz_of (by kernel_rfl)
def zl55 : List Value := [.slice none 0 0]
theorem zv55 : Zv Try.prog 55 (.agg zl55.toArray) := zv_of (by kernel_rfl)
theorem el55 : El Try.prog 55 1 24 := el_of (by kernel_rfl) (by decide)
theorem ag55 : Ag Try.prog 55 true := ag_of true Try.underlying55 rfl
theorem sz56 : Sz Try.prog 56 1 := sz_of (by kernel_rfl)
def zl56 : List Value := [.slice none 0 0]
theorem zv56 : Zv Try.prog 56 (.agg zl56.toArray) := zv_of (by kernel_rfl)
theorem el56 : El Try.prog 56 1 24 := el_of (by kernel_rfl) (by decide)
theorem ag56 : Ag Try.prog 56 true := ag_of true Try.underlying56 rfl
theorem sz71 : Sz Try.prog 71 2 := sz_of (by kernel_rfl)
def zl71 : List Value := [.slice none 0 0] ++ [.int .i64 0]
theorem zv71 : Zv Try.prog 71 (.agg zl71.toArray) := zv_of (by kernel_rfl)
theorem el71 : El Try.prog 71 2 32 := el_of (by kernel_rfl) (by decide)
theorem ag71 : Ag Try.prog 71 true := ag_of true Try.underlying71 rfl
theorem sz72 : Sz Try.prog 72 2 := sz_of (by kernel_rfl)
def zl72 : List Value := [.slice none 0 0] ++ [.int .i64 0]
theorem zv72 : Zv Try.prog 72 (.agg zl72.toArray) := zv_of (by kernel_rfl)
theorem el72 : El Try.prog 72 2 32 := el_of (by kernel_rfl) (by decide)
theorem ag72 : Ag Try.prog 72 true := ag_of true Try.underlying72 rfl
theorem sz74 : Sz Try.prog 74 2 := sz_of (by kernel_rfl)
def zl74 : List Value := [.slice none 0 0] ++ [.int .i64 0]
theorem zv74 : Zv Try.prog 74 (.agg zl74.toArray) := zv_of (by kernel_rfl)
theorem el74 : El Try.prog 74 2 32 := el_of (by kernel_rfl) (by decide)
theorem ag74 : Ag Try.prog 74 true := ag_of true Try.underlying74 rfl
theorem sz75 : Sz Try.prog 75 2 := sz_of (by kernel_rfl)
def zl75 : List Value := [.slice none 0 0] ++ [.int .i64 0]
theorem zv75 : Zv Try.prog 75 (.agg zl75.toArray) := zv_of (by kernel_rfl)
theorem el75 : El Try.prog 75 2 32 := el_of (by kernel_rfl) (by decide)
theorem ag75 : Ag Try.prog 75 true := ag_of true Try.underlying75 rfl
theorem sz76 : Sz Try.prog 76 64 := sz_of (by kernel_rfl)
def zl76 : List Value := List.replicate 64 (.int .u8 0)
theorem zv76 : Zv Try.prog 76 (.agg zl76.toArray) := zv_of (by kernel_rfl)
theorem el76 : El Try.prog 76 64 64 := el_of (by kernel_rfl) (by decide)
theorem gd76 : Try.prog.eqGuardType Try.prog.depth 76 = false := by kernel_rfl
theorem ag76 : Ag Try.prog 76 true := ag_of true Try.underlying76 rfl
theorem sz77 : Sz Try.prog 77 67 := sz_of (by kernel_rfl)
def zl77 : List Value := [.int .i64 0, .int .i64 0, .int .i64 0] ++ List.replicate 64 (.int .u8 0)
theorem zv77 : Zv Try.prog 77 (.agg zl77.toArray) := zv_of (by kernel_rfl)
theorem el77 : El Try.prog 77 67 88 := el_of (by kernel_rfl) (by decide)
theorem gd77 : Try.prog.eqGuardType Try.prog.depth 77 = false := by kernel_rfl
theorem ag77 : Ag Try.prog 77 true := ag_of true Try.underlying77 rfl
theorem sz78 : Sz Try.prog 78 67 := sz_of (by kernel_rfl)
def zl78 : List Value := [.int .i64 0, .int .i64 0, .int .i64 0] ++ List.replicate 64 (.int .u8 0)
theorem zv78 : Zv Try.prog 78 (.agg zl78.toArray) := zv_of (by kernel_rfl)
theorem el78 : El Try.prog 78 67 88 := el_of (by kernel_rfl) (by decide)
theorem gd78 : Try.prog.eqGuardType Try.prog.depth 78 = false := by kernel_rfl
theorem ag78 : Ag Try.prog 78 true := ag_of true Try.underlying78 rfl
theorem sz79 : Sz Try.prog 79 33 := sz_of (by kernel_rfl)
def zl79 : List Value := [.int .i64 0] ++ List.replicate 32 (.int .u8 0)
theorem zv79 : Zv Try.prog 79 (.agg zl79.toArray) := zv_of (by kernel_rfl)
theorem el79 : El Try.prog 79 33 40 := el_of (by kernel_rfl) (by decide)
theorem gd79 : Try.prog.eqGuardType Try.prog.depth 79 = false := by kernel_rfl
theorem ag79 : Ag Try.prog 79 true := ag_of true Try.underlying79 rfl
theorem sz80 : Sz Try.prog 80 33 := sz_of (by kernel_rfl)
def zl80 : List Value := [.int .i64 0] ++ List.replicate 32 (.int .u8 0)
theorem zv80 : Zv Try.prog 80 (.agg zl80.toArray) := zv_of (by kernel_rfl)
theorem el80 : El Try.prog 80 33 40 := el_of (by kernel_rfl) (by decide)
theorem gd80 : Try.prog.eqGuardType Try.prog.depth 80 = false := by kernel_rfl
theorem ag80 : Ag Try.prog 80 true := ag_of true Try.underlying80 rfl
theorem sz81 : Sz Try.prog 81 35 := sz_of (by kernel_rfl)
def zl81 : List Value := [.int .i64 0, .int .i64 0] ++ List.replicate 32 (.int .u8 0) ++ [.slice none 0 0]
theorem zv81 : Zv Try.prog 81 (.agg zl81.toArray) := zv_of (by kernel_rfl)
theorem el81 : El Try.prog 81 35 72 := el_of (by kernel_rfl) (by decide)
theorem ag81 : Ag Try.prog 81 true := ag_of true Try.underlying81 rfl
theorem sz82 : Sz Try.prog 82 35 := sz_of (by kernel_rfl)
def zl82 : List Value := [.int .i64 0, .int .i64 0] ++ List.replicate 32 (.int .u8 0) ++ [.slice none 0 0]
theorem zv82 : Zv Try.prog 82 (.agg zl82.toArray) := zv_of (by kernel_rfl)
theorem el82 : El Try.prog 82 35 72 := el_of (by kernel_rfl) (by decide)
theorem ag82 : Ag Try.prog 82 true := ag_of true Try.underlying82 rfl
theorem sz83 : Sz Try.prog 83 239 := sz_of (by kernel_rfl)
def zl83 : List Value := List.replicate 6 (.int .i64 0) ++ List.replicate 64 (.int .u8 0) ++ [.int .i64 0] ++ List.replicate 32 (.int .u8 0) ++ [.int .i64 0] ++ List.replicate 32 (.int .u8 0) ++ [.int .i64 0, .int .i64 0] ++ List.replicate 32 (.int .u8 0) ++ [.slice none 0 0] ++ [.int .i64 0, .int .i64 0, .int .i64 0] ++ List.replicate 64 (.int .u8 0) ++ [.slice none 0 0]
theorem zv83 : Zv Try.prog 83 (.agg zl83.toArray) := zv_of (by kernel_rfl)
theorem el83 : El Try.prog 83 239 376 := el_of (by kernel_rfl) (by decide)
theorem ag83 : Ag Try.prog 83 true := ag_of true Try.underlying83 rfl
theorem sz84 : Sz Try.prog 84 239 := sz_of (by kernel_rfl)
def zl84 : List Value := List.replicate 6 (.int .i64 0) ++ List.replicate 64 (.int .u8 0) ++ [.int .i64 0] ++ List.replicate 32 (.int .u8 0) ++ [.int .i64 0] ++ List.replicate 32 (.int .u8 0) ++ [.int .i64 0, .int .i64 0] ++ List.replicate 32 (.int .u8 0) ++ [.slice none 0 0] ++ [.int .i64 0, .int .i64 0, .int .i64 0] ++ List.replicate 64 (.int .u8 0) ++ [.slice none 0 0]
theorem zv84 : Zv Try.prog 84 (.agg zl84.toArray) := zv_of (by kernel_rfl)
theorem el84 : El Try.prog 84 239 376 := el_of (by kernel_rfl) (by decide)
theorem ag84 : Ag Try.prog 84 true := ag_of true Try.underlying84 rfl
theorem sz85 : Sz Try.prog 85 243 := sz_of (by kernel_rfl)
def zl85 : List Value := List.replicate 9 (.int .i64 0) ++ List.replicate 64 (.int .u8 0) ++ [.int .i64 0] ++ List.replicate 32 (.int .u8 0) ++ [.int .i64 0] ++ List.replicate 32 (.int .u8 0) ++ [.int .i64 0, .int .i64 0] ++ List.replicate 32 (.int .u8 0) ++ [.slice none 0 0] ++ [.int .i64 0, .int .i64 0, .int .i64 0] ++ List.replicate 64 (.int .u8 0) ++ [.slice none 0 0, .slice none 0 0]
theorem zv85 : Zv Try.prog 85 (.agg zl85.toArray) := zv_of (by kernel_rfl)
theorem el85 : El Try.prog 85 243 424 := el_of (by kernel_rfl) (by decide)
theorem ag85 : Ag Try.prog 85 true := ag_of true Try.underlying85 rfl
theorem sz86 : Sz Try.prog 86 243 := sz_of (by kernel_rfl)
def zl86 : List Value := List.replicate 9 (.int .i64 0) ++ List.replicate 64 (.int .u8 0) ++ [.int .i64 0] ++ List.replicate 32 (.int .u8 0) ++ [.int .i64 0] ++ List.replicate 32 (.int .u8 0) ++ [.int .i64 0, .int .i64 0] ++ List.replicate 32 (.int .u8 0) ++ [.slice none 0 0] ++ [.int .i64 0, .int .i64 0, .int .i64 0] ++ List.replicate 64 (.int .u8 0) ++ [.slice none 0 0, .slice none 0 0]
theorem zv86 : Zv Try.prog 86 (.agg zl86.toArray) := zv_of (by kernel_rfl)
theorem el86 : El Try.prog 86 243 424 := el_of (by kernel_rfl) (by decide)
theorem ag86 : Ag Try.prog 86 true := ag_of true Try.underlying86 rfl
theorem sz89 : Sz Try.prog 89 2 := sz_of (by kernel_rfl)
def zl89 : List Value := [.int .i64 0] ++ [.slice none 0 0]
theorem zv89 : Zv Try.prog 89 (.agg zl89.toArray) := zv_of (by kernel_rfl)
theorem el89 : El Try.prog 89 2 32 := el_of (by kernel_rfl) (by decide)
theorem ag89 : Ag Try.prog 89 true := ag_of true Try.underlying89 rfl
theorem sz90 : Sz Try.prog 90 2 := sz_of (by kernel_rfl)
def zl90 : List Value := [.int .i64 0] ++ [.slice none 0 0]
theorem zv90 : Zv Try.prog 90 (.agg zl90.toArray) := zv_of (by kernel_rfl)
theorem el90 : El Try.prog 90 2 32 := el_of (by kernel_rfl) (by decide)
theorem ag90 : Ag Try.prog 90 true := ag_of true Try.underlying90 rfl
theorem sz127 : Sz Try.prog 127 2 := sz_of (by kernel_rfl)
def zl127 : List Value := [.slice none 0 0] ++ [.int .i64 0]
theorem zv127 : Zv Try.prog 127 (.agg zl127.toArray) := zv_of (by kernel_rfl)
theorem el127 : El Try.prog 127 2 32 := el_of (by kernel_rfl) (by decide)
theorem ag127 : Ag Try.prog 127 true := ag_of true Try.underlying127 rfl
theorem sz128 : Sz Try.prog 128 2 := sz_of (by kernel_rfl)
def zl128 : List Value := [.slice none 0 0] ++ [.int .i64 0]
theorem zv128 : Zv Try.prog 128 (.agg zl128.toArray) := zv_of (by kernel_rfl)
theorem el128 : El Try.prog 128 2 32 := el_of (by kernel_rfl) (by decide)
theorem ag128 : Ag Try.prog 128 true := ag_of true Try.underlying128 rfl
theorem nm3 : (Try.f3.name == "runtime.NumGoroutine") = false := by kernel_rfl
theorem nm4 : (Try.f4.name == "runtime.NumGoroutine") = false := by kernel_rfl
theorem nm5 : (Try.f5.name == "runtime.NumGoroutine") = false := by kernel_rfl
theorem nm6 : (Try.f6.name == "runtime.NumGoroutine") = false := by kernel_rfl
theorem nm7 : (Try.f7.name == "runtime.NumGoroutine") = false := by kernel_rfl
theorem nm8 : (Try.f8.name == "runtime.NumGoroutine") = false := by kernel_rfl
theorem nm9 : (Try.f9.name == "runtime.NumGoroutine") = false := by kernel_rfl
theorem nm10 : (Try.f10.name == "runtime.NumGoroutine") = false := by kernel_rfl
theorem nm11 : (Try.f11.name == "runtime.NumGoroutine") = false := by kernel_rfl
theorem nm12 : (Try.f12.name == "runtime.NumGoroutine") = false := by kernel_rfl
theorem nm13 : (Try.f13.name == "runtime.NumGoroutine") = false := by kernel_rfl
theorem nm14 : (Try.f14.name == "runtime.NumGoroutine") = false := by kernel_rfl
theorem nm15 : (Try.f15.name == "runtime.NumGoroutine") = false := by kernel_rfl
theorem nm16 : (Try.f16.name == "runtime.NumGoroutine") = false := by kernel_rfl
theorem nm17 : (Try.f17.name == "runtime.NumGoroutine") = false := by kernel_rfl
theorem nm18 : (Try.f18.name == "runtime.NumGoroutine") = false := by kernel_rfl
theorem nm19 : (Try.f19.name == "runtime.NumGoroutine") = false := by kernel_rfl
theorem nm20 : (Try.f20.name == "runtime.NumGoroutine") = false := by kernel_rfl
theorem nm21 : (Try.f21.name == "runtime.NumGoroutine") = false := by kernel_rfl
theorem nm22 : (Try.f22.name == "runtime.NumGoroutine") = false := by kernel_rfl
theorem nm23 : (Try.f23.name == "runtime.NumGoroutine") = false := by kernel_rfl
theorem nm24 : (Try.f24.name == "runtime.NumGoroutine") = false := by kernel_rfl
theorem nm25 : (Try.f25.name == "runtime.NumGoroutine") = false := by kernel_rfl
theorem nm26 : (Try.f26.name == "runtime.NumGoroutine") = false := by kernel_rfl
theorem nm27 : (Try.f27.name == "runtime.NumGoroutine") = false := by kernel_rfl
theorem nm28 : (Try.f28.name == "runtime.NumGoroutine") = false := by kernel_rfl
theorem nm29 : (Try.f29.name == "runtime.NumGoroutine") = false := by kernel_rfl
theorem nm30 : (Try.f30.name == "runtime.NumGoroutine") = false := by kernel_rfl
theorem nm31 : (Try.f31.name == "runtime.NumGoroutine") = false := by kernel_rfl
theorem nm32 : (Try.f32.name == "runtime.NumGoroutine") = false := by kernel_rfl
theorem nm33 : (Try.f33.name == "runtime.NumGoroutine") = false := by kernel_rfl
theorem nm34 : (Try.f34.name == "runtime.NumGoroutine") = false := by kernel_rfl
theorem nm35 : (Try.f35.name == "runtime.NumGoroutine") = false := by kernel_rfl
theorem nm36 : (Try.f36.name == "runtime.NumGoroutine") = false := by kernel_rfl
theorem nm37 : (Try.f37.name == "runtime.NumGoroutine") = false := by kernel_rfl
theorem nm38 : (Try.f38.name == "runtime.NumGoroutine") = false := by kernel_rfl
theorem nm39 : (Try.f39.name == "runtime.NumGoroutine") = false := by kernel_rfl
theorem nm40 : (Try.f40.name == "runtime.NumGoroutine") = false := by kernel_rfl
theorem nm41 : (Try.f41.name == "runtime.NumGoroutine") = false := by kernel_rfl
theorem nm42 : (Try.f42.name == "runtime.NumGoroutine") = false := by kernel_rfl
theorem nm43 : (Try.f43.name == "runtime.NumGoroutine") = false := by kernel_rfl
theorem nm44 : (Try.f44.name == "runtime.NumGoroutine") = false := by kernel_rfl
theorem nm45 : (Try.f45.name == "runtime.NumGoroutine") = false := by kernel_rfl
theorem nm46 : (Try.f46.name == "runtime.NumGoroutine") = false := by kernel_rfl
theorem nm47 : (Try.f47.name == "runtime.NumGoroutine") = false := by kernel_rfl
theorem nm48 : (Try.f48.name == "runtime.NumGoroutine") = false := by kernel_rfl
theorem nm49 : (Try.f49.name == "runtime.NumGoroutine") = false := by kernel_rfl
theorem nm50 : (Try.f50.name == "runtime.NumGoroutine") = false := by kernel_rfl
theorem nm51 : (Try.f51.name == "runtime.NumGoroutine") = false := by kernel_rfl
theorem nm52 : (Try.f52.name == "runtime.NumGoroutine") = false := by kernel_rfl
theorem nm53 : (Try.f53.name == "runtime.NumGoroutine") = false := by kernel_rfl
theorem nm54 : (Try.f54.name == "runtime.NumGoroutine") = false := by kernel_rfl
theorem nm55 : (Try.f55.name == "runtime.NumGoroutine") = false := by kernel_rfl
theorem nm56 : (Try.f56.name == "runtime.NumGoroutine") = false := by kernel_rfl
theorem nm57 : (Try.f57.name == "runtime.NumGoroutine") = false := by kernel_rfl
theorem nm58 : (Try.f58.name == "runtime.NumGoroutine") = false := by kernel_rfl
theorem nm59 : (Try.f59.name == "runtime.NumGoroutine") = false := by kernel_rfl
theorem nm60 : (Try.f60.name == "runtime.NumGoroutine") = false := by kernel_rfl
theorem nm61 : (Try.f61.name == "runtime.NumGoroutine") = false := by kernel_rfl
theorem nm62 : (Try.f62.name == "runtime.NumGoroutine") = false := by kernel_rfl
theorem nm63 : (Try.f63.name == "runtime.NumGoroutine") = false := by kernel_rfl
theorem nm64 : (Try.f64.name == "runtime.NumGoroutine") = false := by kernel_rfl
theorem nm65 : (Try.f65.name == "runtime.NumGoroutine") = false := by kernel_rfl
theorem nm66 : (Try.f66.name == "runtime.NumGoroutine") = false := by kernel_rfl
theorem nm67 : (Try.f67.name == "runtime.NumGoroutine") = false := by kernel_rfl
theorem nm68 : (Try.f68.name == "runtime.NumGoroutine") = false := by kernel_rfl
theorem nm69 : (Try.f69.name == "runtime.NumGoroutine") = false := by kernel_rfl
theorem nm70 : (Try.f70.name == "runtime.NumGoroutine") = false := by kernel_rfl
theorem nm71 : (Try.f71.name == "runtime.NumGoroutine") = false := by kernel_rfl
theorem nm72 : (Try.f72.name == "runtime.NumGoroutine") = false := by kernel_rfl
theorem nm73 : (Try.f73.name == "runtime.NumGoroutine") = false := by kernel_rfl
theorem nm74 : (Try.f74.name == "runtime.NumGoroutine") = false := by kernel_rfl
theorem mixed : Try.prog.follows .mixedOrders = true := by kernel_rfl
end Go.Proofs.Ytcgcjklpilbndaa

/- Closed facts on the seat's structs, by program: the parts of their zero values, their places. It proves no statement by itself. -/
namespace Go.Proofs.Ytcgcjklpilbndaa
open Go E
def zc13 : List (List Value) := [[.string ⟨#[]⟩], [.int .u64 0]]
theorem zs13 : Zv Try.prog 13 (.agg (cat zc13).toArray) := zv_of (by kernel_rfl)
theorem bt13 : Bt Try.prog 13 zc13 [(0, 1), (1, 1)] := bt_of (by kernel_rfl) Try.underlying13 (by kernel_rfl)
def zc29 : List (List Value) := [[.slice none 0 0], [.map none]]
theorem zs29 : Zv Try.prog 29 (.agg (cat zc29).toArray) := zv_of (by kernel_rfl)
theorem bt29 : Bt Try.prog 29 zc29 [(0, 1), (1, 1)] := bt_of (by kernel_rfl) Try.underlying29 (by kernel_rfl)
def zc30 : List (List Value) := [[.slice none 0 0], [.map none]]
theorem zs30 : Zv Try.prog 30 (.agg (cat zc30).toArray) := zv_of (by kernel_rfl)
theorem bt30 : Bt Try.prog 30 zc30 [(0, 1), (1, 1)] := bt_of (by kernel_rfl) Try.underlying30 (by kernel_rfl)
def zc32 : List (List Value) := [[.slice none 0 0], [.map none], [.slice none 0 0]]
theorem zs32 : Zv Try.prog 32 (.agg (cat zc32).toArray) := zv_of (by kernel_rfl)
theorem bt32 : Bt Try.prog 32 zc32 [(0, 2), (2, 1)] := bt_of (by kernel_rfl) Try.underlying32 (by kernel_rfl)
def zc33 : List (List Value) := [[.slice none 0 0], [.map none], [.slice none 0 0]]
theorem zs33 : Zv Try.prog 33 (.agg (cat zc33).toArray) := zv_of (by kernel_rfl)
theorem bt33 : Bt Try.prog 33 zc33 [(0, 2), (2, 1)] := bt_of (by kernel_rfl) Try.underlying33 (by kernel_rfl)
def zc39 : List (List Value) := [[.int .i64 0], [.int .i64 0], [.int .i64 0]]
theorem zs39 : Zv Try.prog 39 (.agg (cat zc39).toArray) := zv_of (by kernel_rfl)
theorem bt39 : Bt Try.prog 39 zc39 [(0, 1), (1, 1), (2, 1)] := bt_of (by kernel_rfl) Try.underlying39 (by kernel_rfl)
def zc40 : List (List Value) := [[.int .i64 0], [.int .i64 0], [.int .i64 0]]
theorem zs40 : Zv Try.prog 40 (.agg (cat zc40).toArray) := zv_of (by kernel_rfl)
theorem bt40 : Bt Try.prog 40 zc40 [(0, 1), (1, 1), (2, 1)] := bt_of (by kernel_rfl) Try.underlying40 (by kernel_rfl)
def zc45 : List (List Value) := [[.int .i64 0], [.int .i64 0], [.int .i64 0], List.replicate 32 (.int .u8 0), List.replicate 32 (.int .u8 0)]
theorem zs45 : Zv Try.prog 45 (.agg (cat zc45).toArray) := zv_of (by kernel_rfl)
theorem bt45 : Bt Try.prog 45 zc45 [(0, 1), (1, 1), (2, 1), (3, 32), (35, 32)] := bt_of (by kernel_rfl) Try.underlying45 (by kernel_rfl)
def zc46 : List (List Value) := [[.int .i64 0], [.int .i64 0], [.int .i64 0], List.replicate 32 (.int .u8 0), List.replicate 32 (.int .u8 0)]
theorem zs46 : Zv Try.prog 46 (.agg (cat zc46).toArray) := zv_of (by kernel_rfl)
theorem bt46 : Bt Try.prog 46 zc46 [(0, 1), (1, 1), (2, 1), (3, 32), (35, 32)] := bt_of (by kernel_rfl) Try.underlying46 (by kernel_rfl)
def zc53 : List (List Value) := [[.int .i64 0], [.int .i64 0], [.int .i64 0], List.replicate 32 (.int .u8 0), List.replicate 32 (.int .u8 0), [.slice none 0 0]]
theorem zs53 : Zv Try.prog 53 (.agg (cat zc53).toArray) := zv_of (by kernel_rfl)
theorem bt53 : Bt Try.prog 53 zc53 [(0, 67), (67, 1)] := bt_of (by kernel_rfl) Try.underlying53 (by kernel_rfl)
def zc54 : List (List Value) := [[.int .i64 0], [.int .i64 0], [.int .i64 0], List.replicate 32 (.int .u8 0), List.replicate 32 (.int .u8 0), [.slice none 0 0]]
theorem zs54 : Zv Try.prog 54 (.agg (cat zc54).toArray) := zv_of (by kernel_rfl)
theorem bt54 : Bt Try.prog 54 zc54 [(0, 67), (67, 1)] := bt_of (by kernel_rfl) Try.underlying54 (by kernel_rfl)
def zc55 : List (List Value) := [[.slice none 0 0]]
theorem zs55 : Zv Try.prog 55 (.agg (cat zc55).toArray) := zv_of (by kernel_rfl)
theorem bt55 : Bt Try.prog 55 zc55 [(0, 1)] := bt_of (by kernel_rfl) Try.underlying55 (by kernel_rfl)
def zc56 : List (List Value) := [[.slice none 0 0]]
theorem zs56 : Zv Try.prog 56 (.agg (cat zc56).toArray) := zv_of (by kernel_rfl)
theorem bt56 : Bt Try.prog 56 zc56 [(0, 1)] := bt_of (by kernel_rfl) Try.underlying56 (by kernel_rfl)
def zc71 : List (List Value) := [[.slice none 0 0], [.int .i64 0]]
theorem zs71 : Zv Try.prog 71 (.agg (cat zc71).toArray) := zv_of (by kernel_rfl)
theorem bt71 : Bt Try.prog 71 zc71 [(0, 1), (1, 1)] := bt_of (by kernel_rfl) Try.underlying71 (by kernel_rfl)
def zc72 : List (List Value) := [[.slice none 0 0], [.int .i64 0]]
theorem zs72 : Zv Try.prog 72 (.agg (cat zc72).toArray) := zv_of (by kernel_rfl)
theorem bt72 : Bt Try.prog 72 zc72 [(0, 1), (1, 1)] := bt_of (by kernel_rfl) Try.underlying72 (by kernel_rfl)
def zc74 : List (List Value) := [[.slice none 0 0], [.int .i64 0]]
theorem zs74 : Zv Try.prog 74 (.agg (cat zc74).toArray) := zv_of (by kernel_rfl)
theorem bt74 : Bt Try.prog 74 zc74 [(0, 1), (1, 1)] := bt_of (by kernel_rfl) Try.underlying74 (by kernel_rfl)
def zc75 : List (List Value) := [[.slice none 0 0], [.int .i64 0]]
theorem zs75 : Zv Try.prog 75 (.agg (cat zc75).toArray) := zv_of (by kernel_rfl)
theorem bt75 : Bt Try.prog 75 zc75 [(0, 1), (1, 1)] := bt_of (by kernel_rfl) Try.underlying75 (by kernel_rfl)
def zc77 : List (List Value) := [[.int .i64 0], [.int .i64 0], [.int .i64 0], List.replicate 32 (.int .u8 0), List.replicate 32 (.int .u8 0)]
theorem zs77 : Zv Try.prog 77 (.agg (cat zc77).toArray) := zv_of (by kernel_rfl)
theorem bt77 : Bt Try.prog 77 zc77 [(0, 1), (1, 1), (2, 1), (3, 64)] := bt_of (by kernel_rfl) Try.underlying77 (by kernel_rfl)
def zc78 : List (List Value) := [[.int .i64 0], [.int .i64 0], [.int .i64 0], List.replicate 32 (.int .u8 0), List.replicate 32 (.int .u8 0)]
theorem zs78 : Zv Try.prog 78 (.agg (cat zc78).toArray) := zv_of (by kernel_rfl)
theorem bt78 : Bt Try.prog 78 zc78 [(0, 1), (1, 1), (2, 1), (3, 64)] := bt_of (by kernel_rfl) Try.underlying78 (by kernel_rfl)
def zc79 : List (List Value) := [[.int .i64 0], List.replicate 32 (.int .u8 0)]
theorem zs79 : Zv Try.prog 79 (.agg (cat zc79).toArray) := zv_of (by kernel_rfl)
theorem bt79 : Bt Try.prog 79 zc79 [(0, 1), (1, 32)] := bt_of (by kernel_rfl) Try.underlying79 (by kernel_rfl)
def zc80 : List (List Value) := [[.int .i64 0], List.replicate 32 (.int .u8 0)]
theorem zs80 : Zv Try.prog 80 (.agg (cat zc80).toArray) := zv_of (by kernel_rfl)
theorem bt80 : Bt Try.prog 80 zc80 [(0, 1), (1, 32)] := bt_of (by kernel_rfl) Try.underlying80 (by kernel_rfl)
def zc81 : List (List Value) := [[.int .i64 0], [.int .i64 0], List.replicate 32 (.int .u8 0), [.slice none 0 0]]
theorem zs81 : Zv Try.prog 81 (.agg (cat zc81).toArray) := zv_of (by kernel_rfl)
theorem bt81 : Bt Try.prog 81 zc81 [(0, 1), (1, 1), (2, 32), (34, 1)] := bt_of (by kernel_rfl) Try.underlying81 (by kernel_rfl)
def zc82 : List (List Value) := [[.int .i64 0], [.int .i64 0], List.replicate 32 (.int .u8 0), [.slice none 0 0]]
theorem zs82 : Zv Try.prog 82 (.agg (cat zc82).toArray) := zv_of (by kernel_rfl)
theorem bt82 : Bt Try.prog 82 zc82 [(0, 1), (1, 1), (2, 32), (34, 1)] := bt_of (by kernel_rfl) Try.underlying82 (by kernel_rfl)
def zc83 : List (List Value) := [[.int .i64 0], [.int .i64 0], [.int .i64 0], [.int .i64 0], [.int .i64 0], [.int .i64 0], List.replicate 32 (.int .u8 0), List.replicate 32 (.int .u8 0), [.int .i64 0], List.replicate 32 (.int .u8 0), [.int .i64 0], List.replicate 32 (.int .u8 0), [.int .i64 0], [.int .i64 0], List.replicate 32 (.int .u8 0), [.slice none 0 0], [.int .i64 0], [.int .i64 0], [.int .i64 0], List.replicate 32 (.int .u8 0), List.replicate 32 (.int .u8 0), [.slice none 0 0]]
theorem zs83 : Zv Try.prog 83 (.agg (cat zc83).toArray) := zv_of (by kernel_rfl)
theorem bt83 : Bt Try.prog 83 zc83 [(0, 1), (1, 1), (2, 1), (3, 67), (70, 33), (103, 1), (104, 32), (136, 35), (171, 68)] := bt_of (by kernel_rfl) Try.underlying83 (by kernel_rfl)
def zc84 : List (List Value) := [[.int .i64 0], [.int .i64 0], [.int .i64 0], [.int .i64 0], [.int .i64 0], [.int .i64 0], List.replicate 32 (.int .u8 0), List.replicate 32 (.int .u8 0), [.int .i64 0], List.replicate 32 (.int .u8 0), [.int .i64 0], List.replicate 32 (.int .u8 0), [.int .i64 0], [.int .i64 0], List.replicate 32 (.int .u8 0), [.slice none 0 0], [.int .i64 0], [.int .i64 0], [.int .i64 0], List.replicate 32 (.int .u8 0), List.replicate 32 (.int .u8 0), [.slice none 0 0]]
theorem zs84 : Zv Try.prog 84 (.agg (cat zc84).toArray) := zv_of (by kernel_rfl)
theorem bt84 : Bt Try.prog 84 zc84 [(0, 1), (1, 1), (2, 1), (3, 67), (70, 33), (103, 1), (104, 32), (136, 35), (171, 68)] := bt_of (by kernel_rfl) Try.underlying84 (by kernel_rfl)
def zc85 : List (List Value) := [[.int .i64 0], [.int .i64 0], [.int .i64 0], [.int .i64 0], [.int .i64 0], [.int .i64 0], [.int .i64 0], [.int .i64 0], [.int .i64 0], List.replicate 32 (.int .u8 0), List.replicate 32 (.int .u8 0), [.int .i64 0], List.replicate 32 (.int .u8 0), [.int .i64 0], List.replicate 32 (.int .u8 0), [.int .i64 0], [.int .i64 0], List.replicate 32 (.int .u8 0), [.slice none 0 0], [.int .i64 0], [.int .i64 0], [.int .i64 0], List.replicate 32 (.int .u8 0), List.replicate 32 (.int .u8 0), [.slice none 0 0], [.slice none 0 0]]
theorem zs85 : Zv Try.prog 85 (.agg (cat zc85).toArray) := zv_of (by kernel_rfl)
theorem bt85 : Bt Try.prog 85 zc85 [(0, 1), (1, 1), (2, 1), (3, 239), (242, 1)] := bt_of (by kernel_rfl) Try.underlying85 (by kernel_rfl)
def zc86 : List (List Value) := [[.int .i64 0], [.int .i64 0], [.int .i64 0], [.int .i64 0], [.int .i64 0], [.int .i64 0], [.int .i64 0], [.int .i64 0], [.int .i64 0], List.replicate 32 (.int .u8 0), List.replicate 32 (.int .u8 0), [.int .i64 0], List.replicate 32 (.int .u8 0), [.int .i64 0], List.replicate 32 (.int .u8 0), [.int .i64 0], [.int .i64 0], List.replicate 32 (.int .u8 0), [.slice none 0 0], [.int .i64 0], [.int .i64 0], [.int .i64 0], List.replicate 32 (.int .u8 0), List.replicate 32 (.int .u8 0), [.slice none 0 0], [.slice none 0 0]]
theorem zs86 : Zv Try.prog 86 (.agg (cat zc86).toArray) := zv_of (by kernel_rfl)
theorem bt86 : Bt Try.prog 86 zc86 [(0, 1), (1, 1), (2, 1), (3, 239), (242, 1)] := bt_of (by kernel_rfl) Try.underlying86 (by kernel_rfl)
def zc89 : List (List Value) := [[.int .i64 0], [.slice none 0 0]]
theorem zs89 : Zv Try.prog 89 (.agg (cat zc89).toArray) := zv_of (by kernel_rfl)
theorem bt89 : Bt Try.prog 89 zc89 [(0, 1), (1, 1)] := bt_of (by kernel_rfl) Try.underlying89 (by kernel_rfl)
def zc90 : List (List Value) := [[.int .i64 0], [.slice none 0 0]]
theorem zs90 : Zv Try.prog 90 (.agg (cat zc90).toArray) := zv_of (by kernel_rfl)
theorem bt90 : Bt Try.prog 90 zc90 [(0, 1), (1, 1)] := bt_of (by kernel_rfl) Try.underlying90 (by kernel_rfl)
def zc127 : List (List Value) := [[.slice none 0 0], [.int .i64 0]]
theorem zs127 : Zv Try.prog 127 (.agg (cat zc127).toArray) := zv_of (by kernel_rfl)
theorem bt127 : Bt Try.prog 127 zc127 [(0, 1), (1, 1)] := bt_of (by kernel_rfl) Try.underlying127 (by kernel_rfl)
def zc128 : List (List Value) := [[.slice none 0 0], [.int .i64 0]]
theorem zs128 : Zv Try.prog 128 (.agg (cat zc128).toArray) := zv_of (by kernel_rfl)
theorem bt128 : Bt Try.prog 128 zc128 [(0, 1), (1, 1)] := bt_of (by kernel_rfl) Try.underlying128 (by kernel_rfl)
theorem zvS : Zv Try.prog 44 (.agg (bv zsum).toArray) := zv_of (by kernel_rfl)
end Go.Proofs.Ytcgcjklpilbndaa

/- What writes bytes. It proves no statement by itself. -/
set_option linter.unusedSimpArgs false
set_option linter.unusedVariables false
set_option maxRecDepth 100000
set_option maxHeartbeats 1000000
namespace Go.Proofs.Ytcgcjklpilbndaa
open Go Go.RowKit E
attribute [local irreducible] wpList seqH treeH
/-- a pen with bytes l: its block, its row -/
abbrev penE (k : Option Nat) (c : Nat) (l : List Nat) : Option Obj → Prop := Ex (cat [[.slice (at_ k) l.length c]]).toArray 56
abbrev penR (c : Nat) (l : List Nat) : Option Obj → Prop := Rw 5 1 l.length c (bv l)
theorem pen_new {w0 w : World} {ex : List Nat} {ks : List (Option Nat)} {ps : List (Option Obj → Prop)} {b : Nat} (S : St w0 w ex (some b :: ks) (Ex (cat zc56).toArray 56 :: ps)) :
    St w0 w ex (some b :: none :: ks) (penE none 0 [] :: penR 0 [] :: ps) := (S.addNil 5 1).swap
theorem pen_num (w0 : World) (hb : Nat) (k : Option Nat) (c : Nat) (l : List Nat) (a : Int) (S0 : St w0 w0 (exOf [some hb, k]) [some hb, k] [penE k c l, penR c l]) (hl : l.length ≤ 1099511627776) :
    Ret Try.prog 56 [.pointer (some ⟨hb, 0, none⟩), .int .i64 a] w0 fun v w' => v = .pointer (some ⟨hb, 0, none⟩) ∧ ∃ k' c', St w0 w' (exOf [some hb, k]) [some hb, k'] [penE k' c' (l ++ num a), penR c' (l ++ num a)] := by
  refine enter Try.func56 rfl Try.ntmps56 (Nat.le_of_ble_eq_true rfl) ?_
  have S := S0
  have hna := num_len a
  refine s_seq (s_plain ?_)
  refine p_val (e_assign (v := .pointer _) rfl) rfl ?_
  refine p_nil (x_then (s_seq (s_seq (s_plain ?_))))
  refine p_val (e_move (v := .pointer _) rfl) rfl ?_
  refine p_val (e_eqlP rfl rfl Try.underlying57) rfl ?_
  refine p_nil (x_then ?_)
  refine s_condb rfl (fun hc7 => ?_) (fun hc7 => ?_)
  · exact False.elim (by simp at hc7)
  · refine s_skip (x_then (s_seq (s_plain ?_)))
    refine p_val (e_move (v := .int _ _) rfl) rfl ?_
    refine p_val (e_max0 rfl rfl) rfl ?_
    refine p_val (e_convU64 rfl Try.underlying3 (by simp) Try.underlying130) rfl ?_
    refine p_val (e_assign (v := .int _ _) rfl) rfl ?_
    refine p_nil (x_then (s_seq (s_block ?_)))
    refine s_loopK (α := Nat) (ks := [some hb, k]) (ps := [Ex _ _, Rw _ _ _ _ _]) [(0, .pointer _)] ⟨rfl, trivial⟩ S (fun keep ks ps g f' w' => ∃ u Kk Ck m xs p, f' = upds u ((5, .int .u64 (g : Int)) :: keep) ∧ (m = l.length + p.length) ∧ (xs = bv (l ++ p)) ∧ (p ++ vnum g = num a) ∧ St w0 w' (exOf [some hb, k]) [some hb, Kk] [Ex (cat [[.slice (at_ Kk) m Ck]]).toArray 56, Rw 5 1 (m) Ck (xs)]) (fun g => g) (a.toNat % 18446744073709551616) (⟨_, _,  _,  _,  _,  [], upds_eq ⟨rfl, rfl, trivial⟩, by first | omega | rfl | with_reducible assumption | (simp; done) | (simp; omega), by simp, by unfold num; rfl, S⟩) ?_
    rintro g f w ⟨u, Kk, Ck, m, xs, p, rfl, rfl, rfl, hv, S⟩
    have hpl : p.length + (vnum g).length = (num a).length := by rw [← hv, List.length_append]
    refine s_seq (s_seq (s_plain ?_))
    refine p_val (e_move (v := .int _ _) rfl) rfl ?_
    refine p_val (e_geq rfl rfl) rfl ?_
    refine p_nil (x_then ?_)
    refine s_cond rfl (fun hc13 => ?_) (fun hc13 => ?_)
    · refine s_skip (x_then (s_block (s_seq (s_plain ?_))))
      refine p_val (e_move (v := .pointer _) rfl) rfl ?_
      refine p_val (e_move (v := .pointer _) rfl) rfl ?_
      refine p_val (e_nil rfl rfl) rfl ?_
      refine p_val (e_field rfl Try.underlying56 rfl sz47 (by decide)) rfl ?_
      refine p_val (e_loadF1 (i := 0) (off := 0) rfl ag47 S (j := 0) rfl rfl rfl (by first | with_reducible assumption | (simp [cat]; done) | (simp [cat]; omega) | rfl)) rfl ?_
      refine p_val (e_move (v := .int _ _) rfl) rfl ?_
      refine p_val (e_conv8 rfl Try.underlying130 (by simp) Try.underlying5) rfl ?_
      refine p_val (e_or8 (n := 128) rfl rfl (by omega) (by omega)) rfl ?_
      refine p_does (d_litB S Try.underlying47 sz5 zv5 rfl (l := [_]) rfl rfl (by decide)) rfl ?_
      rintro _ w ⟨b22, rfl, S⟩
      refine p_does (d_append S 2 rfl rfl Try.underlying47 el5 rfl rfl (S.rdRw 0 rfl rfl) (by first | exact bv_one _ | exact sv_one _ | exact iv_one _ | with_reducible assumption | (refine One.mem ?_; repeat (first | exact One.bv _ | exact One.sv _ | exact One.iv _ | exact One.nil | exact One.cat0 | refine One.cat1 ?_ ?_ | refine One.cons rfl ?_ | refine One.append ?_ ?_))) (by first | omega | (simp only [List.length_append, List.length_cons, List.length_nil, bv_length]; omega) | (simp [cat]; omega)) (by unfold maxLen; first | omega | (simp only [List.length_append, List.length_cons, List.length_nil, bv_length]; omega))) rfl ?_
      rintro _ w ⟨k23, c23, rfl, S⟩
      refine p_val (e_nil rfl rfl) rfl ?_
      refine p_val (e_field rfl Try.underlying56 rfl sz47 (by decide)) rfl ?_
      refine p_does (d_storeF1 (v := .slice _ _ _) (off := 0) S 1 0 rfl rfl rfl sz47 rfl rfl rfl (by first | with_reducible assumption | (simp [cat]; done) | (simp [cat]; omega) | rfl)) rfl ?_
      intro _ w S
      refine p_nil (x_then (s_plain ?_))
      refine p_val (e_move (v := .int _ _) rfl) rfl ?_
      refine p_val (e_shr64 7 rfl rfl (by decide)) rfl ?_
      refine p_val (e_assign (v := .int _ _) rfl) rfl ?_
      refine p_nil (x_in ?_)
      refine x_round (g >>> 7) _ rfl ⟨_, _,  _,  _,  _,  p ++ [(g % 256) ||| 128], upds_eq ⟨rfl, rfl, trivial⟩, by simp; omega, by simp [bv], by rw [← hv, vnum_big (v := g) (by omega), or128 (by omega), Nat.shiftRight_eq_div_pow, show g % 256 % 128 = g % 128 by omega]; simp, S.pk [1, 2] rfl⟩ (by rw [Nat.shiftRight_eq_div_pow]; omega)
    · refine s_exit (x_then_exit (x_then_exit (x_in_same (x_then (s_seq (s_plain ?_))))))
      refine p_val (e_move (v := .pointer _) rfl) rfl ?_
      refine p_val (e_move (v := .pointer _) rfl) rfl ?_
      refine p_val (e_nil rfl rfl) rfl ?_
      refine p_val (e_field rfl Try.underlying56 rfl sz47 (by decide)) rfl ?_
      refine p_val (e_loadF1 (i := 0) (off := 0) rfl ag47 S (j := 0) rfl rfl rfl (by first | with_reducible assumption | (simp [cat]; done) | (simp [cat]; omega) | rfl)) rfl ?_
      refine p_val (e_move (v := .int _ _) rfl) rfl ?_
      refine p_val (e_conv8 rfl Try.underlying130 (by simp) Try.underlying5) rfl ?_
      refine p_does (d_litB S Try.underlying47 sz5 zv5 rfl (l := [_]) rfl rfl (by decide)) rfl ?_
      rintro _ w ⟨b35, rfl, S⟩
      refine p_does (d_append S 2 rfl rfl Try.underlying47 el5 rfl rfl (S.rdRw 0 rfl rfl) (by first | exact bv_one _ | exact sv_one _ | exact iv_one _ | with_reducible assumption | (refine One.mem ?_; repeat (first | exact One.bv _ | exact One.sv _ | exact One.iv _ | exact One.nil | exact One.cat0 | refine One.cat1 ?_ ?_ | refine One.cons rfl ?_ | refine One.append ?_ ?_))) (by first | omega | (simp only [List.length_append, List.length_cons, List.length_nil, bv_length]; omega) | (simp [cat]; omega)) (by unfold maxLen; first | omega | (simp only [List.length_append, List.length_cons, List.length_nil, bv_length]; omega))) rfl ?_
      rintro _ w ⟨k36, c36, rfl, S⟩
      refine p_val (e_nil rfl rfl) rfl ?_
      refine p_val (e_field rfl Try.underlying56 rfl sz47 (by decide)) rfl ?_
      refine p_does (d_storeF1 (v := .slice _ _ _) (off := 0) S 1 0 rfl rfl rfl sz47 rfl rfl rfl (by first | with_reducible assumption | (simp [cat]; done) | (simp [cat]; omega) | rfl)) rfl ?_
      intro _ w S
      refine p_nil (x_then (s_seq (s_plain ?_)))
      refine p_val (e_move (v := .pointer _) rfl) rfl ?_
      refine p_val (e_assign (v := .pointer _) rfl) rfl ?_
      refine p_nil (x_then (s_ret ?_))
      exact post1 (v := .pointer _) Try.results56 rfl (⟨rfl, _, _, (S.pk [1, 2] rfl).pen (by rw [← hv, vnum_small (v := g) (by omega), show g % 256 = g by omega]; simp [bv])⟩)
theorem pen_nums (w0 : World) (hb : Nat) (k : Option Nat) (c : Nat) (l : List Nat) (xs : List Int) (A : Option Addr) (n c1 : Nat) (S0 : St w0 w0 (exOf [some hb, k]) [some hb, k] [penE k c l, penR c l]) (R : Rd w0 1 A n (iv xs)) (oR : Off A n (exOf [some hb, k])) (hl : l.length ≤ 1099511000000) (hn : n ≤ 1000) :
    Ret Try.prog 58 [.pointer (some ⟨hb, 0, none⟩), .slice A n c1] w0 fun v w' => v = .pointer (some ⟨hb, 0, none⟩) ∧ ∃ k' c', St w0 w' (exOf [some hb, k]) [some hb, k'] [penE k' c' (l ++ nums xs), penR c' (l ++ nums xs)] := by
  refine enter Try.func58 rfl Try.ntmps58 (Nat.le_of_ble_eq_true rfl) ?_
  have S := S0
  have hxl : xs.length = n := by simpa using R.1
  refine s_seq (s_plain ?_)
  refine p_val (e_assign (v := .pointer _) rfl) rfl ?_
  refine p_nil (x_then (s_seq (s_seq (s_plain ?_))))
  refine p_val (e_move (v := .slice _ _ _) rfl) rfl ?_
  refine p_val (e_len rfl Try.underlying31) rfl ?_
  refine p_val (e_move (v := .int _ _) rfl) rfl ?_
  refine p_nil (x_then (s_block ?_))
  refine s_loopK (α := Nat) (ks := [some hb, k]) (ps := [Ex _ _, Rw _ _ _ _ _]) [(0, .pointer _), (7, .slice _ _ _), (8, .int _ _)] ⟨rfl, rfl, rfl, trivial⟩ S (fun keep ks ps g f' w' => ∃ u Kk Ck, f' = upds u ((9, .int .i64 (g : Int)) :: keep) ∧ (g ≤ n) ∧ St w0 w' (exOf [some hb, k]) [some hb, Kk] [penE Kk Ck (l ++ nums (xs.take g)), Rw 5 1 ((l ++ nums (xs.take g)).length) Ck (bv (l ++ nums (xs.take g)))]) (fun g => n - g) (0) (⟨_, _, _, upds_eq ⟨rfl, rfl, rfl, rfl, trivial⟩, by omega, by simpa [nums] using S⟩) ?_
  rintro g f w ⟨u, Kk, Ck, rfl, hg, S⟩
  have hnl := nums_len (xs.take g)
  have htl : (xs.take g).length = g := by rw [List.length_take]; omega
  refine s_seq (s_plain ?_)
  refine p_val (e_lss rfl rfl) rfl ?_
  refine p_nil (x_then (s_seq ?_))
  refine s_cond rfl (fun hc10 => ?_) (fun hc10 => ?_)
  · refine s_skip (x_then (s_seq (s_block (s_seq (s_plain ?_)))))
    refine p_val (e_ixR (S.rdOff R oR) (by decide) rfl rfl Try.underlying31 sz3 (by omega)) rfl ?_
    refine p_val (e_loadRi rfl ag3 (S.rdOff R oR) (by omega)) rfl ?_
    refine p_val (e_assign (v := .int _ _) rfl) rfl ?_
    refine p_nil (x_then (s_plain ?_))
    refine p_val (e_move (v := .pointer _) rfl) rfl ?_
    refine p_val (e_move (v := .int _ _) rfl) rfl ?_
    refine p_does (d_call Try.func56 nm56 rfl rfl (pen_num _ _ _ _ _ _ (S.hr [0, 1] rfl) (by simp only [List.length_append]; omega))) rfl ?_
    rintro _ w ⟨rfl, k15, c15, T⟩
    have S := (S.call [0, 1] T rfl).pk [0, 1] rfl
    refine p_nil (x_in (x_then (s_plain ?_)))
    refine p_val (e_add64 rfl rfl (by omega)) rfl ?_
    refine p_val (e_move (v := .int _ _) rfl) rfl ?_
    refine p_nil ?_
    have e1 : l ++ nums (xs.take g) ++ num (xs.getD (g : Int).toNat 0) = l ++ nums (xs.take (g + 1)) := by rw [nums_take xs (show g < xs.length by omega), Int.toNat_natCast, List.append_assoc]
    rw [e1] at S
    refine x_round (g + 1) _ rfl ⟨_, _, _, upds_eq ⟨rfl, rfl, rfl, rfl, trivial⟩, by first | omega | rfl | with_reducible assumption | (simp; done) | (simp; omega), S⟩ (by omega)
  · refine s_exit (x_then_exit (x_then_exit (x_in_same (x_then (s_seq (s_plain ?_))))))
    refine p_val (e_move (v := .pointer _) rfl) rfl ?_
    refine p_val (e_assign (v := .pointer _) rfl) rfl ?_
    refine p_nil (x_then (s_ret ?_))
    exact post1 (v := .pointer _) Try.results58 rfl (⟨rfl, _, _, by obtain rfl : g = n := (by omega); rw [List.take_of_length_le (by omega)] at S; exact S⟩)
theorem pen_text (w0 : World) (hb : Nat) (k : Option Nat) (c : Nat) (l : List Nat) (s : List Nat) (A : Option Addr) (n c1 : Nat) (S0 : St w0 w0 (exOf [some hb, k]) [some hb, k] [penE k c l, penR c l]) (R : Rd w0 1 A n (bv s)) (oR : Off A n (exOf [some hb, k])) (hl : l.length + n ≤ 1099511000000) :
    Ret Try.prog 25 [.pointer (some ⟨hb, 0, none⟩), .slice A n c1] w0 fun v w' => v = .pointer (some ⟨hb, 0, none⟩) ∧ ∃ k' c', St w0 w' (exOf [some hb, k]) [some hb, k'] [penE k' c' (l ++ num s.length ++ s), penR c' (l ++ num s.length ++ s)] := by
  refine enter Try.func25 rfl Try.ntmps25 (Nat.le_of_ble_eq_true rfl) ?_
  have S := S0
  have hxl : s.length = n := by simpa using R.1
  subst hxl
  have hna := num_len s.length
  refine s_seq (s_plain ?_)
  refine p_val (e_assign (v := .pointer _) rfl) rfl ?_
  refine p_nil (x_then (s_seq (s_seq (s_plain ?_))))
  refine p_val (e_move (v := .pointer _) rfl) rfl ?_
  refine p_val (e_eqlP rfl rfl Try.underlying57) rfl ?_
  refine p_nil (x_then ?_)
  refine s_condb rfl (fun hc6 => ?_) (fun hc6 => ?_)
  · exact False.elim (by simp at hc6)
  · refine s_skip (x_then (s_seq (s_plain ?_)))
    refine p_val (e_move (v := .pointer _) rfl) rfl ?_
    refine p_val (e_move (v := .slice _ _ _) rfl) rfl ?_
    refine p_val (e_len rfl Try.underlying47) rfl ?_
    refine p_does (d_call Try.func56 nm56 rfl rfl (pen_num _ _ _ _ _ _ (S.hr [0, 1] rfl) (by first | omega | (simp only [List.length_append, List.length_cons, List.length_nil, bv_length]; omega) | (simp [cat]; omega)))) rfl ?_
    rintro _ w ⟨rfl, k11, c11, T⟩
    have S := (S.call [0, 1] T rfl).pk [0, 1] rfl
    refine p_nil (x_then (s_seq (s_plain ?_)))
    refine p_val (e_move (v := .pointer _) rfl) rfl ?_
    refine p_val (e_move (v := .pointer _) rfl) rfl ?_
    refine p_val (e_nil rfl rfl) rfl ?_
    refine p_val (e_field rfl Try.underlying56 rfl sz47 (by decide)) rfl ?_
    refine p_val (e_loadF1 (i := 0) (off := 0) rfl ag47 S (j := 0) rfl rfl rfl (by first | with_reducible assumption | (simp [cat]; done) | (simp [cat]; omega) | rfl)) rfl ?_
    refine p_val (e_move (v := .slice _ _ _) rfl) rfl ?_
    refine p_does (d_append S 1 rfl rfl Try.underlying47 el5 rfl rfl (S.rdOff R oR) (by first | exact bv_one _ | exact sv_one _ | exact iv_one _ | with_reducible assumption | (refine One.mem ?_; repeat (first | exact One.bv _ | exact One.sv _ | exact One.iv _ | exact One.nil | exact One.cat0 | refine One.cat1 ?_ ?_ | refine One.cons rfl ?_ | refine One.append ?_ ?_))) (by first | omega | (simp only [List.length_append, List.length_cons, List.length_nil, bv_length]; omega) | (simp [cat]; omega)) (by unfold maxLen; first | omega | (simp only [List.length_append, List.length_cons, List.length_nil, bv_length]; omega))) rfl ?_
    rintro _ w ⟨k18, c18, rfl, S⟩
    refine p_val (e_nil rfl rfl) rfl ?_
    refine p_val (e_field rfl Try.underlying56 rfl sz47 (by decide)) rfl ?_
    refine p_does (d_storeF1 (v := .slice _ _ _) (off := 0) S 0 0 rfl rfl rfl sz47 rfl rfl rfl (by first | with_reducible assumption | (simp [cat]; done) | (simp [cat]; omega) | rfl)) rfl ?_
    intro _ w S
    refine p_nil (x_then (s_seq (s_plain ?_)))
    refine p_val (e_move (v := .pointer _) rfl) rfl ?_
    refine p_val (e_assign (v := .pointer _) rfl) rfl ?_
    refine p_nil (x_then (s_ret ?_))
    exact post1 (v := .pointer _) Try.results25 rfl (⟨rfl, _, _, (S.pk [0, 1] rfl).pen (by simp [bv])⟩)
theorem pen_sum (w0 : World) (hb : Nat) (k : Option Nat) (c : Nat) (l : List Nat) (s : List Nat) (S0 : St w0 w0 (exOf [some hb, k]) [some hb, k] [penE k c l, penR c l]) (hs : s.length = 32) (hl : l.length ≤ 1099511000000) :
    Ret Try.prog 57 [.pointer (some ⟨hb, 0, none⟩), .agg (bv s).toArray] w0 fun v w' => v = .pointer (some ⟨hb, 0, none⟩) ∧ ∃ k' c', St w0 w' (exOf [some hb, k]) [some hb, k'] [penE k' c' (l ++ s), penR c' (l ++ s)] := by
  refine enter Try.func57 rfl Try.ntmps57 (Nat.le_of_ble_eq_true rfl) ?_
  have S := S0
  refine s_seq (s_plain ?_)
  refine p_does (d_boxA S rfl) rfl ?_
  rintro _ w ⟨b3, rfl, S⟩
  refine p_val (e_assign (v := .pointer _) rfl) rfl ?_
  refine p_nil (x_then (s_seq (s_seq (s_plain ?_))))
  refine p_val (e_move (v := .pointer _) rfl) rfl ?_
  refine p_val (e_neqP rfl rfl Try.underlying57) rfl ?_
  refine p_nil (x_then ?_)
  refine s_condb rfl (fun hc6 => ?_) (fun hc6 => ?_)
  · refine s_drawK (ks := [some b3, some hb]) (ps := [Ex _ _, Ex _ _]) (S.pk [0, 1] rfl) [(true, 0), (true, 1), (true, 2), (true, 3), (true, 4), (true, 5), (false, 6), (true, 7)] [8] [8, 9] mixed (by kernel_rfl) (by repeat (first | exact Calm.post _ _ _ | refine Calm.then ?_ _ | refine Calm.inB ?_ _)) (fun hS => ?_)
    have S := S.drew
    refine q_val (fun w hS => e_move (v := .pointer _) rfl) rfl hS ?_
    refine q_val (fun w hS => e_move (v := .pointer _) rfl) rfl hS ?_
    refine q_val (fun w hS => e_nil rfl rfl) rfl hS ?_
    refine q_val (fun w hS => e_field rfl Try.underlying56 rfl sz47 (by decide)) rfl hS ?_
    refine q_val (fun w hS => e_loadF1 (i := 0) (off := 0) rfl ag47 hS (j := 1) rfl rfl rfl (by first | with_reducible assumption | (simp [cat, hs]; done) | (simp [cat, hs]; omega) | rfl)) rfl hS ?_
    refine q_val (fun w hS => e_sl_arr rfl Try.underlying44 sz5) rfl hS ?_
    refine q_does (d_append S 2 rfl rfl Try.underlying47 el5 rfl rfl (S.rdBytes 0 rfl rfl (by first | with_reducible assumption | (simp [cat, hs]; done) | (simp [cat, hs]; omega) | rfl)) (by first | exact bv_one _ | exact sv_one _ | exact iv_one _ | with_reducible assumption | (refine One.mem ?_; repeat (first | exact One.bv _ | exact One.sv _ | exact One.iv _ | exact One.nil | exact One.cat0 | refine One.cat1 ?_ ?_ | refine One.cons rfl ?_ | refine One.append ?_ ?_))) (by first | omega | (simp only [List.length_append, List.length_cons, List.length_nil, bv_length, hs]; omega) | (simp [cat, hs]; omega)) (by unfold maxLen; first | omega | (simp only [List.length_append, List.length_cons, List.length_nil, bv_length, hs]; omega))) rfl ?_
    rintro _ w ⟨k13, c13, rfl, S⟩
    have hS := S.pk [0, 1] rfl
    refine ⟨hS, ?_⟩
    refine q_val (fun w hS => e_nil rfl rfl) rfl hS ?_
    refine q_nil ?_
    refine p_val (e_field rfl Try.underlying56 rfl sz47 (by decide)) rfl ?_
    refine p_does (d_storeF1 (v := .slice _ _ _) (off := 0) S 1 0 rfl rfl rfl sz47 rfl rfl rfl (by first | with_reducible assumption | (simp [cat, hs]; done) | (simp [cat, hs]; omega) | rfl)) rfl ?_
    intro _ w S
    refine p_nil (x_then (s_seq (s_plain ?_)))
    refine p_val (e_move (v := .pointer _) rfl) rfl ?_
    refine p_val (e_assign (v := .pointer _) rfl) rfl ?_
    refine p_nil (x_then (s_ret ?_))
    exact post1 (v := .pointer _) Try.results57 rfl (⟨rfl, _, _, (S.pk [1, 2] rfl).pen (by simp [bv])⟩)
  · exact False.elim (by simp at hc6)
theorem pen_bytes (w0 : World) (hb : Nat) (k : Option Nat) (c : Nat) (l : List Nat) (hh : w0.heap[hb]? = some (.cells (cat [[.slice (at_ k) l.length c]]).toArray 56 (0, 0))) (R : Rd w0 1 (at_ k) l.length (bv l)) (hl : l.length ≤ 1099511000000) :
    Ret Try.prog 26 [.pointer (some ⟨hb, 0, none⟩)] w0 fun v w' => ∃ k2 c2, v = .slice (at_ k2) l.length c2 ∧ St w0 w' [] [k2] [Rw 5 1 l.length c2 (bv l)] := by
  refine enter Try.func26 rfl Try.ntmps26 (Nat.le_of_ble_eq_true rfl) ?_
  have S := St.init w0
  refine s_seq (s_plain ?_)
  refine p_val (e_assign (v := .slice _ _ _) rfl) rfl ?_
  refine p_nil (x_then (s_seq (s_seq (s_plain ?_))))
  refine p_val (e_move (v := .pointer _) rfl) rfl ?_
  refine p_val (e_eqlP rfl rfl Try.underlying57) rfl ?_
  refine p_nil (x_then ?_)
  refine s_condb rfl (fun hc4 => ?_) (fun hc4 => ?_)
  · exact False.elim (by simp at hc4)
  · refine s_skip (x_then (s_seq (s_plain ?_)))
    refine p_val (e_move (v := .pointer _) rfl) rfl ?_
    refine p_val (e_nil rfl rfl) rfl ?_
    refine p_val (e_field rfl Try.underlying56 rfl sz47 (by decide)) rfl ?_
    refine p_val (e_load rfl ag47 (S.oldCell hh (by simp) 0)) rfl ?_
    have S := S.addNil 5 1
    refine p_does (d_append S 0 rfl rfl Try.underlying47 el5 rfl rfl (S.rdOld R rfl) (by first | exact bv_one _ | exact sv_one _ | exact iv_one _ | with_reducible assumption | (refine One.mem ?_; repeat (first | exact One.bv _ | exact One.sv _ | exact One.iv _ | exact One.nil | exact One.cat0 | refine One.cat1 ?_ ?_ | refine One.cons rfl ?_ | refine One.append ?_ ?_))) (by omega) (by unfold maxLen; first | omega | (simp only [List.length_append, List.length_cons, List.length_nil, bv_length]; omega))) rfl ?_
    rintro _ w ⟨k9, c9, rfl, S⟩
    refine p_val (e_assign (v := .slice _ _ _) rfl) rfl ?_
    refine p_nil (x_then (s_ret ?_))
    exact post1 (v := .slice _ _ _) Try.results26 rfl (by have S := S.pk [0] rfl; rw [Nat.zero_add] at *; exact ⟨_, _, rfl, S⟩)
end Go.Proofs.Ytcgcjklpilbndaa
