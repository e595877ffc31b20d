/- Own texts, one behind the other: walks and laws that the statement needs. They prove no statement by themselves. -/
import Derived.Test.YtdhfiamgmokfbaaZP12c1
import Derived.Laws.IdiomStrings
import Derived.Laws.BytesArg
import Derived.Test.YtdhfiamgmokfbaaChecked
/- Structs as rows of parts, elements of slices by an address that may be none, rows that are stored to. It proves no statement by itself. -/
set_option linter.unusedSimpArgs false
set_option linter.unusedVariables false
namespace Go.Proofs.Ytdhfiamgmokfbaa.E
open Go Go.RowKit
def cat (l : List (List Value)) : List Value := l.flatten
@[simp] theorem cat_nil : cat [] = [] := rfl
@[simp] theorem cat_cons (x : List Value) (l : List (List Value)) : cat (x :: l) = x ++ cat l := rfl
theorem cat_append (a b : List (List Value)) : cat (a ++ b) = cat a ++ cat b := by simp [cat]
theorem cat_split (l : List (List Value)) (i n : Nat) : cat l = cat (l.take i) ++ cat ((l.drop i).take n) ++ cat (l.drop (i + n)) := by
  have h1 : l = l.take i ++ ((l.drop i).take n ++ l.drop (i + n)) := by
    conv => lhs; rw [← List.take_append_drop i l, ← List.take_append_drop n (l.drop i), List.drop_drop]
  conv => lhs; rw [h1]
  rw [cat_append, cat_append, List.append_assoc]
theorem cat_at {l : List (List Value)} {i : Nat} {xs : List Value} (h : l[i]? = some xs) : cat l = cat (l.take i) ++ xs ++ cat (l.drop (i + 1)) := by
  have e := cat_split l i 1
  have h2 : (l.drop i).take 1 = [xs] := by
    rw [List.take_one, List.head?_drop, h]; rfl
  rw [h2] at e
  simpa using e
/-! one cell a value -/
def One (l : List Value) : Prop := ∀ u ∈ l, u.oneCell' = true
theorem One.nil : One [] := by simp [One]
theorem One.cons {v : Value} {l : List Value} (h : v.oneCell' = true) (hl : One l) : One (v :: l) := by
  intro u hu
  rcases List.mem_cons.1 hu with rfl | hu
  · exact h
  · exact hl u hu
theorem One.append {a b : List Value} (h : One a) (h' : One b) : One (a ++ b) := fun u hu => (List.mem_append.1 hu).elim (h u) (h' u)
theorem One.cat0 : One (cat []) := One.nil
theorem One.cat1 {a : List Value} {l : List (List Value)} (h : One a) (h' : One (cat l)) : One (cat (a :: l)) := h.append h'
theorem One.mem {l : List Value} (h : One l) : ∀ u ∈ l, u.oneCell' = true := h
theorem One.bv (l : List Nat) : One (bv l) := bv_one l
theorem One.sv (l : List (List Nat)) : One (sv l) := sv_one l
theorem One.iv (l : List Int) : One (iv l) := iv_one l
theorem One.flat {α : Type} {c : α → List Value} {xs : List α} (h : ∀ x ∈ xs, One (c x)) : One (xs.flatMap c) := by
  intro u hu
  obtain ⟨x, hx, hu⟩ := List.mem_flatMap.1 hu
  exact h x hx u hu

/-! ### Parts of structs that lie in a block of the call's own -/
section
variable {w0 w : World} {ex : List Nat} {ks : List (Option Nat)} {ps : List (Option Obj → Prop)}
theorem St.part (S : St w0 w ex ks ps) (j : Nat) {b : Nat} {l : List (List Value)} {t : TypeId} (hk : ks[j]? = some (some b)) (hp : ps[j]? = some (Ex (cat l).toArray t)) (i n : Nat) {off size : Nat} (ho : (cat (l.take i)).length = off) (hn : (cat ((l.drop i).take n)).length = size) :
    Rd w 1 (some ((⟨b, 0, none⟩ : Addr).add off)) size (cat ((l.drop i).take n)) :=
  S.rdChunk j hk hp off (ys := cat (l.take i)) (zs := cat (l.drop (i + n))) (by simpa using cat_split l i n) ho (by rw [hn, Nat.mul_one])
theorem St.part1 (S : St w0 w ex ks ps) (j : Nat) {b : Nat} {l : List (List Value)} {t : TypeId} (hk : ks[j]? = some (some b)) (hp : ps[j]? = some (Ex (cat l).toArray t)) (i : Nat) {xs : List Value} (hx : l[i]? = some xs) {off size : Nat} (ho : (cat (l.take i)).length = off) (hn : xs.length = size) :
    Rd w 1 (some ((⟨b, 0, none⟩ : Addr).add off)) size xs :=
  S.rdChunk j hk hp off (ys := cat (l.take i)) (zs := cat (l.drop (i + 1))) (by simpa using cat_at hx) ho (by rw [hn, Nat.mul_one])
/-- parts of what is read -/
theorem Rd.part {n : Nat} {A : Option Addr} {l : List (List Value)} (R : Rd w 1 A n (cat l)) (i m : Nat) {off size : Nat} (ho : (cat (l.take i)).length = off) (hn : (cat ((l.drop i).take m)).length = size) :
    Rd w 1 (A.map (·.add off)) size (cat ((l.drop i).take m)) := by
  refine ⟨by rw [hn, Nat.mul_one], fun j u hu => ?_⟩
  have hj := (List.getElem?_eq_some_iff.1 hu).1
  have h2 : (cat l)[off + j]? = some u := by
    rw [cat_split l i m, List.append_assoc, List.getElem?_append_right (by omega), List.getElem?_append_left (by omega), show off + j - (cat (l.take i)).length = j by omega]
    exact hu
  obtain ⟨ad, rfl, hc⟩ := R.2 _ _ h2
  exact ⟨_, rfl, by rw [add_add]; exact hc⟩
theorem Rd.part1 {n : Nat} {A : Option Addr} {l : List (List Value)} (R : Rd w 1 A n (cat l)) (i : Nat) {xs : List Value} (hx : l[i]? = some xs) {off size : Nat} (ho : (cat (l.take i)).length = off) (hn : xs.length = size) :
    Rd w 1 (A.map (·.add off)) size xs := by
  have h := R.part i 1 ho (size := size) (by rw [List.take_one, List.head?_drop, hx]; simpa using hn)
  rwa [List.take_one, List.head?_drop, hx, show cat (some xs).toList = xs by simp [Option.toList]] at h
/-- an element of a slice -/
theorem Rd.elemA {α : Type} {c : α → List Value} {s n : Nat} {A : Option Addr} {xs : List α} (R : Rd w s A n (xs.flatMap c)) (h : ∀ x ∈ xs, (c x).length = s) {i : Int} {x : α} (hx : xs[i.toNat]? = some x) : Rd w 1 (A.map fun a => a.add (i.toNat * s)) s (c x) := by
  refine ⟨by rw [h x (List.mem_of_getElem? hx), Nat.mul_one], fun j u hu => ?_⟩
  have hj : j < s := by
    have := (List.getElem?_eq_some_iff.1 hu).1
    rwa [h x (List.mem_of_getElem? hx)] at this
  have h2 : (xs.flatMap c)[i.toNat * s + j]? = some u := by rw [flatMap_at h hx hj]; exact hu
  obtain ⟨ad, rfl, hc⟩ := R.2 _ _ h2
  exact ⟨_, rfl, by rw [add_add]; exact hc⟩
theorem Rd.sumA {n : Nat} {A : Option Addr} {L : List (List Nat)} (R : Rd w 32 A n (sv L)) (hL : All32 L) {i : Int} (h : 0 ≤ i ∧ i < L.length) : Rd w 1 (A.map fun a => a.add (i.toNat * 32)) 32 (bv (L.getD i.toNat [])) :=
  Rd.elemA (c := bv) (s := 32) R (fun x hx => by rw [bv_length]; exact hL x hx) (by rw [List.getD_eq_getElem?_getD, List.getElem?_eq_getElem (by omega)]; rfl)
theorem Rd.ne {n s : Nat} {A : Option Addr} {xs : List Value} (R : Rd w s A n xs) (hs : 0 < s) (hn : 0 < n) : ∃ ad, A = some ad := R.some_ (by rw [R.1]; exact Nat.mul_pos hn hs)
end
section
variable {P : Program} {ρ : Operand → Value} {d : Option Tmp} {x y : Operand} {t ty yt : TypeId} {ps : String} {af : Array Edge} {g : Option (Nat × Bool)} {w w0 : World} {k : IntKind} {ex : List Nat} {ks : List (Option Nat)} {pp : List (Option Obj → Prop)}
/-- the address of an element of a slice that is read -/
theorem e_ixR {A : Option Addr} {i : Int} {n c s : Nat} {e : TypeId} {xs : List Value} (R : Rd w s A n xs) (hs0 : 0 < s) (hx : ρ x = .slice A n c) (hy : ρ y = .int k i) (hu : P.underlying t = some (.slice e)) (hs : Sz P e s) (h0 : 0 ≤ i ∧ i < n) :
    (execOp ρ { dst := d, op := .indexAddr t x y, type := ty, pos := ps, after := af, guard := g }).run P w = .ok (.value (.pointer (A.map fun a => a.add (i.toNat * s)))) w := by
  obtain ⟨ad, rfl⟩ := R.ne hs0 (by omega)
  exact e_ix_sl hx hy hu hs h0
/-- a field's address -/
theorem e_fieldR {A : Option Addr} {fs : Array Field} {i s n : Nat} {fd : Field} {xs : List Value} (R : Rd w 1 A n xs) (hn : 0 < n) (hx : ρ x = .pointer A) (hu : P.underlying t = some (.struct fs)) (hf : fs[i]? = some fd) (hs : Sz P fd.type s) (hs0 : ¬ s = 0) :
    (execOp ρ { dst := d, op := .fieldAddr t x i, type := ty, pos := ps, after := af, guard := g }).run P w = .ok (.value (.pointer (A.map (·.add fd.offset)))) w := by
  obtain ⟨ad, rfl⟩ := R.ne (by decide) hn
  exact e_field hx hu hf hs hs0
/-- loads -/
theorem e_loadR1 {A : Option Addr} {v : Value} (hx : ρ x = .pointer A) (ha : Ag P t false) (R : Rd w 1 A 1 [v]) :
    (execOp ρ { dst := d, op := .load t x, type := ty, pos := ps, after := af, guard := g }).run P w = .ok (.value v) w := by
  obtain ⟨ad, rfl⟩ := R.ne (by decide) (by decide)
  exact e_load hx ha (by have := R.cell (j := 0) (u := v) rfl; rwa [add_zero] at this)
theorem e_loadRA {A : Option Addr} {cs : List Value} {s : Nat} (hx : ρ x = .pointer A) (ha : Ag P t true) (hs : Sz P t s) (hs0 : 0 < s) (R : Rd w 1 A s cs) :
    (execOp ρ { dst := d, op := .load t x, type := ty, pos := ps, after := af, guard := g }).run P w = .ok (.value (.agg cs.toArray)) w := by
  obtain ⟨ad, rfl⟩ := R.ne (by decide) hs0
  exact e_loadN hx ha hs (by rw [R.1, Nat.mul_one]) R.loads
theorem e_loadR1i {A : Option Addr} {n : Nat} {xs : List Value} {i : Int} {v : Value} (hx : ρ x = .pointer (A.map fun a => a.add (i.toNat * 1))) (ha : Ag P t false) (R : Rd w 1 A n xs) (hv : xs[i.toNat]? = some v) :
    (execOp ρ { dst := d, op := .load t x, type := ty, pos := ps, after := af, guard := g }).run P w = .ok (.value v) w := by
  obtain ⟨ad, rfl, hc⟩ := R.2 _ _ hv
  exact e_load hx ha (by rw [Nat.mul_one]; exact hc)
theorem e_loadRb {A : Option Addr} {n : Nat} {l : List Nat} {i : Int} (hx : ρ x = .pointer (A.map fun a => a.add (i.toNat * 1))) (ha : Ag P t false) (R : Rd w 1 A n (bv l)) (hi : 0 ≤ i ∧ i < n) :
    (execOp ρ { dst := d, op := .load t x, type := ty, pos := ps, after := af, guard := g }).run P w = .ok (.value (.int .u8 (l.getD i.toNat 0 : Int))) w :=
  e_loadR1i hx ha R (bv_get (by have := R.1; rw [bv_length, Nat.mul_one] at this; omega))
theorem e_loadRi {A : Option Addr} {n : Nat} {l : List Int} {i : Int} (hx : ρ x = .pointer (A.map fun a => a.add (i.toNat * 1))) (ha : Ag P t false) (R : Rd w 1 A n (iv l)) (hi : 0 ≤ i ∧ i < n) :
    (execOp ρ { dst := d, op := .load t x, type := ty, pos := ps, after := af, guard := g }).run P w = .ok (.value (.int .i64 (l.getD i.toNat 0))) w :=
  e_loadR1i hx ha R (iv_get (by have := R.1; rw [iv_length, Nat.mul_one] at this; omega))
/-- a field of a block of its own -/
theorem e_loadF1 {b j i off : Nat} {l : List (List Value)} {e : TypeId} {v : Value} (hx : ρ x = .pointer (some ((⟨b, 0, none⟩ : Addr).add off))) (ha : Ag P t false) (S : St w0 w ex ks pp) (hk : ks[j]? = some (some b)) (hp : pp[j]? = some (Ex (cat l).toArray e)) (hl : l[i]? = some [v]) (ho : (cat (l.take i)).length = off) :
    (execOp ρ { dst := d, op := .load t x, type := ty, pos := ps, after := af, guard := g }).run P w = .ok (.value v) w :=
  e_loadR1 hx ha (S.part1 j hk hp i hl ho rfl)
theorem e_loadFA {b j i off s : Nat} {l : List (List Value)} {e : TypeId} {xs : List Value} (hx : ρ x = .pointer (some ((⟨b, 0, none⟩ : Addr).add off))) (ha : Ag P t true) (hs : Sz P t s) (hs0 : 0 < s) (S : St w0 w ex ks pp) (hk : ks[j]? = some (some b)) (hp : pp[j]? = some (Ex (cat l).toArray e)) (hl : l[i]? = some xs) (ho : (cat (l.take i)).length = off) (hn : xs.length = s) :
    (execOp ρ { dst := d, op := .load t x, type := ty, pos := ps, after := af, guard := g }).run P w = .ok (.value (.agg xs.toArray)) w :=
  e_loadRA hx ha hs hs0 (S.part1 j hk hp i hl ho hn)
theorem e_loadFS {b j i n off s : Nat} {l : List (List Value)} {e : TypeId} (hx : ρ x = .pointer (some ((⟨b, 0, none⟩ : Addr).add off))) (ha : Ag P t true) (hs : Sz P t s) (hs0 : 0 < s) (S : St w0 w ex ks pp) (hk : ks[j]? = some (some b)) (hp : pp[j]? = some (Ex (cat l).toArray e)) (ho : (cat (l.take i)).length = off) (hn : (cat ((l.drop i).take n)).length = s) :
    (execOp ρ { dst := d, op := .load t x, type := ty, pos := ps, after := af, guard := g }).run P w = .ok (.value (.agg (cat ((l.drop i).take n)).toArray)) w :=
  e_loadRA hx ha hs hs0 (S.part j hk hp i n ho hn)
/-- the whole of a block of its own -/
theorem e_loadW {bl s : Nat} {cs : List Value} {e : TypeId} (j : Nat) (hx : ρ x = .pointer (some ⟨bl, 0, none⟩)) (ha : Ag P t true) (hs : Sz P t s) (S : St w0 w ex ks pp) (hk : ks[j]? = some (some bl)) (hp : pp[j]? = some (Ex cs.toArray e)) (hl : cs.length = s) :
    (execOp ρ { dst := d, op := .load t x, type := ty, pos := ps, after := af, guard := g }).run P w = .ok (.value (.agg cs.toArray)) w :=
  e_loadEx hx ha hs S j hk hp (by simpa using hl)
/-- stores to fields -/
theorem seg3 (a b c v : List Value) : (a ++ b ++ c).take a.length ++ v ++ (a ++ b ++ c).drop (a.length + b.length) = a ++ v ++ c := by
  rw [List.append_assoc a b c, List.take_left, ← List.drop_drop, List.drop_left, List.drop_left]
theorem cat_set {l : List (List Value)} {i : Nat} {xs vs : List Value} (h : l[i]? = some xs) (hv : vs.length = xs.length) :
    ((cat l).toArray.toList.take (cat (l.take i)).length ++ vs ++ (cat l).toArray.toList.drop ((cat (l.take i)).length + vs.length)).toArray = (cat (l.set i vs)).toArray := by
  have e1 := cat_at h
  have hi := (List.getElem?_eq_some_iff.1 h).1
  have e2 : l.set i vs = l.take i ++ vs :: l.drop (i + 1) := List.set_eq_take_append_cons_drop.trans (if_pos hi)
  congr 1
  show (cat l).take _ ++ vs ++ (cat l).drop _ = _
  rw [e2, cat_append, cat_cons, hv, e1, seg3, List.append_assoc]
theorem d_storeF1 (S : St w0 w ex ks pp) (j i : Nat) {b off : Nat} {l : List (List Value)} {e : TypeId} {u v : Value} (hx : ρ x = .pointer (some ((⟨b, 0, none⟩ : Addr).add off))) (hy : ρ y = v) (h1 : v.oneCell' = true) (hs : Sz P t 1)
    (hk : ks[j]? = some (some b)) (hp : pp[j]? = some (Ex (cat l).toArray e)) (hl : l[i]? = some [u]) (ho : (cat (l.take i)).length = off) :
    Does P ρ { dst := d, op := .store t x y, type := ty, pos := ps, after := af, guard := g } w fun _ w' => St w0 w' ex ks (pp.set j (Ex (cat (l.set i [v])).toArray e)) := by
  have hlen : off < (cat l).length := by rw [cat_at hl]; simp; omega
  have h := d_store1 (P := P) (ρ := ρ) (d := d) (x := x) (y := y) (t := t) (ty := ty) (ps := ps) (af := af) (g := g) S j hx hy h1 hs hk hp (m := off) (by simpa using hlen)
  have e2 : (cat l).toArray.setIfInBounds off v = (cat (l.set i [v])).toArray := by
    rw [← cat_set hl (vs := [v]) rfl, ho]
    apply Array.ext'
    rw [Array.toList_setIfInBounds]
    simp only [List.toList_toArray]
    rw [List.set_eq_take_append_cons_drop, if_pos hlen]
    simp
  rwa [e2] at h
theorem d_storeFA (S : St w0 w ex ks pp) (j i : Nat) {b off s : Nat} {l : List (List Value)} {e : TypeId} {us vs : List Value} (hx : ρ x = .pointer (some ((⟨b, 0, none⟩ : Addr).add off))) (hy : ρ y = .agg vs.toArray) (h1 : ∀ v ∈ vs, v.oneCell' = true) (hs : Sz P t s) (hv : vs.length = s)
    (hk : ks[j]? = some (some b)) (hp : pp[j]? = some (Ex (cat l).toArray e)) (hl : l[i]? = some us) (hul : us.length = s) (ho : (cat (l.take i)).length = off) :
    Does P ρ { dst := d, op := .store t x y, type := ty, pos := ps, after := af, guard := g } w fun _ w' => St w0 w' ex ks (pp.set j (Ex (cat (l.set i vs)).toArray e)) := by
  have hlen : off + s ≤ (cat l).toArray.size := by rw [List.size_toArray, cat_at hl]; simp; omega
  have h := d_storeN (P := P) (ρ := ρ) (d := d) (x := x) (y := y) (t := t) (ty := ty) (ps := ps) (af := af) (g := g) S j (m := off) hx hy h1 hs hv hk hp hlen
  rw [← hv, ← ho, cat_set hl (by omega)] at h
  exact h
/-- a row of the call's own is stored to -/
theorem d_storeRwN {e : TypeId} {size n cap : Nat} {xs vs : List Value} {k0 : Option Nat} {i : Int} (S : St w0 w ex ks pp) (j : Nat) (hk : ks[j]? = some k0) (hp : pp[j]? = some (Rw e size n cap xs)) (hx : ρ x = .pointer ((at_ k0).map fun a => a.add (i.toNat * size))) (hy : ρ y = .agg vs.toArray) (h1 : ∀ v ∈ vs, v.oneCell' = true) (hs : Sz P t size) (hv : vs.length = size) (hi : 0 ≤ i ∧ i < n) (hsz : 0 < size) :
    Does P ρ { dst := d, op := .store t x y, type := ty, pos := ps, after := af, guard := g } w fun _ w' => St w0 w' ex ks (pp.set j (Rw e size n cap (xs.take (i.toNat * size) ++ vs ++ xs.drop (i.toNat * size + size)))) := by
  obtain ⟨hxl, h⟩ := S.own j _ _ hk hp
  have hin : (i.toNat + 1) * size ≤ n * size := Nat.mul_le_mul_right _ (by omega)
  rw [Nat.add_mul, Nat.one_mul] at hin
  rcases h with ⟨_, h0, _⟩ | ⟨cur, hc, hnc, hcm, hcs, ht⟩
  · omega
  · cases k0 with
    | none => cases hc
    | some b =>
      have hb : w.heap[b]? = some (.cells cur e (0, 0)) := hc
      have hnc' : n * size ≤ cap * size := Nat.mul_le_mul_right _ hnc
      have hfit : i.toNat * size + 0 + vs.length ≤ cur.size := by omega
      have hr := run_storeCells_at P b (i.toNat * size) e vs 0 cur w hb hfit h1
      have hs' := hs w
      simp only [Nat.add_zero] at hr
      refine .inr (.inl ⟨w.setRow b (cur.toList.take (i.toNat * size) ++ vs ++ cur.toList.drop (i.toNat * size + vs.length)).toArray, ?_, S.setRow j (Rw _ _ _ _ _) hk hb ?_⟩)
      · simp only [at_, Option.map_some, add_lit] at hx
        simp [execOp, hx, hy, Instr.storeAt, Instr.sureAddr, storeVar, hs', Value.cells, hv, hr]
      · have hcl : cur.toList.length = cap * size := by simpa using hcs
        refine ⟨?_, .inr ⟨_, rfl, hnc, hcm, ?_, ?_⟩⟩
        · simp only [List.length_append, List.length_take, List.length_drop]; omega
        · simp only [List.size_toArray, List.length_append, List.length_take, List.length_drop]; omega
        · rw [← ht]
          simp only [List.toList_toArray]
          rw [List.take_append, List.take_append, List.take_take, List.drop_take]
          simp only [List.length_append, List.length_take, List.take_take]
          rw [show min (n * size) (i.toNat * size) = i.toNat * size by omega, show min (i.toNat * size) (n * size) = i.toNat * size by omega, show min (i.toNat * size) cur.toList.length = i.toNat * size by omega, hv, List.take_of_length_le (show vs.length ≤ n * size - i.toNat * size by omega), show n * size - (i.toNat * size + size) = n * size - (i.toNat * size + size) by rfl]
theorem d_storeRw1 {e : TypeId} {n cap : Nat} {xs : List Value} {v : Value} {k0 : Option Nat} {i : Int} (S : St w0 w ex ks pp) (j : Nat) (hk : ks[j]? = some k0) (hp : pp[j]? = some (Rw e 1 n cap xs)) (hx : ρ x = .pointer ((at_ k0).map fun a => a.add (i.toNat * 1))) (hy : ρ y = v) (h1 : v.oneCell' = true) (hs : Sz P t 1) (hi : 0 ≤ i ∧ i < n) :
    Does P ρ { dst := d, op := .store t x y, type := ty, pos := ps, after := af, guard := g } w fun _ w' => St w0 w' ex ks (pp.set j (Rw e 1 n cap (xs.set i.toNat v))) := by
  obtain ⟨hxl, h⟩ := S.own j _ _ hk hp
  rcases h with ⟨_, h0, _⟩ | ⟨cur, hc, hnc, hcm, hcs, ht⟩
  · omega
  · cases k0 with
    | none => cases hc
    | some b =>
      have hb : w.heap[b]? = some (.cells cur e (0, 0)) := hc
      have hcv : v.cells = #[v] := by cases v <;> simp_all [Value.oneCell', Value.cells]
      have hfit : i.toNat + 0 + [v].length ≤ cur.size := by simp; omega
      have hr := run_storeCells_at P b i.toNat e [v] 0 cur w hb hfit (by intro u hu; rw [List.mem_singleton.1 hu]; exact h1)
      have hs' := hs w
      simp only [Nat.add_zero] at hr
      refine .inr (.inl ⟨w.setRow b (cur.toList.take i.toNat ++ [v] ++ cur.toList.drop (i.toNat + [v].length)).toArray, ?_, S.setRow j (Rw _ _ _ _ _) hk hb ?_⟩)
      · simp only [at_, Option.map_some, add_lit, Nat.mul_one] at hx
        simp [execOp, hx, hy, Instr.storeAt, Instr.sureAddr, storeVar, hs', hcv] at hr ⊢
        first | done | simp [hr]
      · have hcl : cur.toList.length = cap * 1 := by simpa using hcs
        have e0 : cur.toList.take i.toNat ++ [v] ++ cur.toList.drop (i.toNat + [v].length) = cur.toList.set i.toNat v := by
          rw [List.set_eq_take_append_cons_drop, if_pos (by omega)]; simp
        rw [e0]
        refine ⟨by simpa using hxl, .inr ⟨_, rfl, hnc, hcm, by simpa using hcs, ?_⟩⟩
        rw [← ht]
        simp only [List.toList_toArray, Nat.mul_one]
        rw [List.take_set]
end
/-! ### Structs that are put together -/
theorem fill_cat {place : Nat → Option (Nat × Nat)} {l l' : List (List Value)} {i off size : Nat} {v : Value} {rest : List (Nat × Value)} (a n : Nat) (hp : place i = some (off, size)) (hv : v.cells.toList = cat l') (hl' : (cat l').length = size) (ho : (cat (l.take a)).length = off) (hn : (cat ((l.drop a).take n)).length = size) :
    Instr.fill place (cat l).toArray ((i, v) :: rest) = Instr.fill place (cat (l.take a ++ l' ++ l.drop (a + n))).toArray rest := by
  have hsp := cat_split l a n
  have hvs : v.cells.size = size := by rw [← Array.length_toList, hv, hl']
  have hlen : (cat l).length = off + size + (cat (l.drop (a + n))).length := by rw [hsp]; simp only [List.length_append]; omega
  simp only [Instr.fill, hp]
  rw [if_neg (by simp [hvs, hlen])]
  congr 1
  have hf := foldl_set #[] off v.cells.toList 0 (cat l).toArray (by simp [hv, hl', hlen])
  simp only [Nat.add_zero] at hf
  have hz : v.cells.zipIdx.foldl (fun (cs : Array Value) (x : Value × Nat) => cs.setIfInBounds (off + x.2) x.1) (cat l).toArray = ((cat l).toArray.toList.take off ++ v.cells.toList ++ (cat l).toArray.toList.drop (off + v.cells.toList.length)).toArray := by
    rw [← hf, ← Array.foldl_toList, Array.toList_zipIdx]
  rw [hz]
  congr 1
  rw [cat_append, cat_append, hv, hl']
  show (cat l).take off ++ cat l' ++ (cat l).drop (off + size) = _
  rw [hsp, ← ho, ← hn, seg3]
/-- how a struct's type is built: its zero's parts, its fields' places -/
def Bt (P : Program) (t : TypeId) (zc : List (List Value)) (pl : List (Nat × Nat)) : Prop := ∀ parts, P.built t parts = Instr.fill (pl.toArray[·]?) (cat zc).toArray parts
theorem bt_of {P : Program} {t : TypeId} {zc : List (List Value)} {pl : List (Nat × Nat)} {fs : Array Field} (hz : (P.info? t).map (·.zero.map (·.cells)) = some (some (cat zc).toArray)) (hu : P.underlying t = some (.struct fs))
    (hp : fs.toList.mapM (fun f => (P.info? f.type).map fun i => (f.offset, i.size)) = some pl) : Bt P t zc pl := by
  intro parts
  obtain ⟨it, hi, h1⟩ := Option.map_eq_some_iff.1 hz
  obtain ⟨z, hz1, h2⟩ := Option.map_eq_some_iff.1 h1
  unfold Program.built
  simp only [hi, hu, hz1, hp, h2]
section
variable {P : Program} {ρ : Operand → Value} {d : Option Tmp} {x : Operand} {t ty : TypeId} {ps : String} {af : Array Edge} {g : Option (Nat × Bool)} {w : World}
theorem e_buildS {parts : List (Nat × Operand)} {zc l : List (List Value)} {pl : List (Nat × Nat)} (hb : Bt P t zc pl) (h : Instr.fill (pl.toArray[·]?) (cat zc).toArray (parts.map fun (q : Nat × Operand) => (q.1, ρ q.2)) = some (cat l).toArray) :
    (execOp ρ { dst := d, op := .build t parts.toArray, type := ty, pos := ps, after := af, guard := g }).run P w = .ok (.value (.agg (cat l).toArray)) w :=
  e_build ((hb _).trans (by rw [← h]; congr 1; simp))
theorem e_buildS0 {zc : List (List Value)} {pl : List (Nat × Nat)} (hb : Bt P t zc pl) :
    (execOp ρ { dst := d, op := .build t #[], type := ty, pos := ps, after := af, guard := g }).run P w = .ok (.value (.agg (cat zc).toArray)) w :=
  e_build ((hb _).trans (by simp [Instr.fill]))
/-- fields of values -/
theorem e_fieldV1 {fs : Array Field} {i a : Nat} {fd : Field} {l : List (List Value)} {v : Value} (hx : ρ x = .agg (cat l).toArray) (hu : P.underlying t = some (.struct fs)) (hf : fs[i]? = some fd) (ha : Ag P fd.type false) (hl : l[a]? = some [v]) (ho : (cat (l.take a)).length = fd.offset) :
    (execOp ρ { dst := d, op := .field t x i, type := ty, pos := ps, after := af, guard := g }).run P w = .ok (.value v) w := by
  have ha' := ha w
  have h2 : (cat l)[fd.offset]? = some v := by
    rw [cat_at hl, List.append_assoc, List.getElem?_append_right (by omega), show fd.offset - (cat (l.take a)).length = 0 by omega]; rfl
  simp [execOp, hx, Instr.field, run_underlying hu, hf, asAgg, part, ha', h2]
theorem e_fieldVS {fs : Array Field} {i a n s : Nat} {fd : Field} {l : List (List Value)} (hx : ρ x = .agg (cat l).toArray) (hu : P.underlying t = some (.struct fs)) (hf : fs[i]? = some fd) (ha : Ag P fd.type true) (hs : Sz P fd.type s) (ho : (cat (l.take a)).length = fd.offset) (hn : (cat ((l.drop a).take n)).length = s) :
    (execOp ρ { dst := d, op := .field t x i, type := ty, pos := ps, after := af, guard := g }).run P w = .ok (.value (.agg (cat ((l.drop a).take n)).toArray)) w := by
  have ha' := ha w
  have hs' := hs w
  have h2 : (cat l).toArray.extract fd.offset (fd.offset + s) = (cat ((l.drop a).take n)).toArray := by
    apply Array.ext'
    rw [Array.toList_extract, List.extract_eq_take_drop]
    show ((cat l).drop fd.offset).take _ = _
    rw [cat_split l a n, show fd.offset + s - fd.offset = s by omega, List.append_assoc, ← ho, List.drop_left, ← hn, List.take_left]
  have h3 : (part fd.type (cat l).toArray fd.offset).run P w = .ok (.agg (cat ((l.drop a).take n)).toArray) w := by
    unfold part
    simp only [Sem.run_bind, ha', hs', Result.andThen_ok, if_true, Sem.run_pure, h2]
  simp only [execOp, hx, Instr.field, Sem.run_bind, run_underlying hu, Result.andThen_ok, hf, asAgg, Sem.run_pure, h3]
theorem e_fieldVA {fs : Array Field} {i a s : Nat} {fd : Field} {l : List (List Value)} {xs : List Value} (hx : ρ x = .agg (cat l).toArray) (hu : P.underlying t = some (.struct fs)) (hf : fs[i]? = some fd) (ha : Ag P fd.type true) (hs : Sz P fd.type s) (hl : l[a]? = some xs) (ho : (cat (l.take a)).length = fd.offset) (hn : xs.length = s) :
    (execOp ρ { dst := d, op := .field t x i, type := ty, pos := ps, after := af, guard := g }).run P w = .ok (.value (.agg xs.toArray)) w := by
  have h1 : cat ((l.drop a).take 1) = xs := by rw [List.take_one, List.head?_drop, hl]; simp [Option.toList]
  have := e_fieldVS (P := P) (ρ := ρ) (d := d) (x := x) (t := t) (ty := ty) (ps := ps) (af := af) (g := g) (w := w) (n := 1) hx hu hf ha hs ho (by rw [h1]; exact hn)
  rwa [h1] at this
end
/-! ### Loops and cuts that keep what is not spoken of -/
section
variable {P : Program} {Q : Exit → Act → World → Prop} {n : Nat} {f : Nat → Value} {w0 w : World} {c : Code} {ex : List Nat} {ks : List (Option Nat)} {ps : List (Option Obj → Prop)}
theorem s_loopK {α : Type} (keep : List (Nat × Value)) (hk : Holds f keep) (S : St w0 w ex ks ps) (J : List (Nat × Value) → List (Option Nat) → List (Option Obj → Prop) → α → (Nat → Value) → World → Prop) (μ : α → Nat) (g0 : α) (h0 : J keep ks ps g0 f w)
    (round : ∀ (g : α) (f : Nat → Value) (w : World), J keep ks ps g f w → c.wp P (Exit.then (fun a' w' => ∃ (g' : α) (f' : Nat → Value), a' = F n f' ∧ J keep ks ps g' f' w' ∧ μ g' < μ g) Q) (F n f) w) :
    (Code.loop c).wp P Q (F n f) w := s_loop (J keep ks ps) μ g0 h0 round
theorem s_cutK (keep : List (Nat × Value)) (hk : Holds f keep) (S : St w0 w ex ks ps) (M : List (Nat × Value) → List (Option Nat) → List (Option Obj → Prop) → (Nat → Value) → World → Prop) (h1 : c.wp P (Exit.then (fun a' w' => ∃ f', a' = F n f' ∧ M keep ks ps f' w') Q) (F n f) w)
    (h2 : ∀ f' w', M keep ks ps f' w' → Q .normal (F n f') w') : c.wp P Q (F n f) w := s_cut (fun _ f' w' => M keep ks ps f' w') h1 h2
/-- a guarded region: the frame is what it was, but for what it wrote -/
theorem s_cutG (S : St w0 w ex ks ps) (M : List (Option Nat) → List (Option Obj → Prop) → (Nat → Value) → (Nat → Value) → World → Prop) (h1 : c.wp P (Exit.then (fun a' w' => ∃ f', a' = F n f' ∧ M ks ps f f' w') Q) (F n f) w)
    (h2 : ∀ f' w', M ks ps f f' w' → Q .normal (F n f') w') : c.wp P Q (F n f) w := s_cut (fun f f' w' => M ks ps f f' w') h1 h2
variable {id : Nat} {l : List Oper}
theorem s_drawK (hS : St w0 w ex ks ps) (order : List (Bool × Nat)) (Z tl : List Nat) (hm : P.follows .mixedOrders = true)
    (hB : (Region.noSelect l.toArray && orderB l.toArray Z tl order (Array.replicate l.length false) && order.length + tl.length == l.length) = true) (hQ : Calm Q)
    (h : St w0 w.drew ex ks ps → seqH P l.toArray Q (fun w' => St w0 w' ex ks ps) (wpList P l.toArray Q (pickL l.toArray tl)) (pick l.toArray order) (F n f) w.drew) : (Code.region id l.toArray true).wp P Q (F n f) w :=
  s_drawZ order Z tl (fun w' => St w0 w' ex ks ps) hm hB hQ (h hS.drew)
theorem s_drawTK (hS : St w0 w ex ks ps) (t : OT) (Z tl : List Nat) (hm : P.follows .mixedOrders = true)
    (hB : (Region.noSelect l.toArray && checkT l.toArray Z tl t false l.length (Array.replicate l.length false)) = true) (hQ : Calm Q)
    (h : St w0 w.drew ex ks ps → treeH P l.toArray Q (fun w' => St w0 w' ex ks ps) (wpList P l.toArray Q (pickL l.toArray tl)) t (F n f) w.drew) : (Code.region id l.toArray true).wp P Q (F n f) w :=
  s_drawT t Z tl (fun w' => St w0 w' ex ks ps) hm hB hQ (h hS.drew)
end
section
variable {P : Program} {ops : Array Oper} {Q : Exit → Act → World → Prop} {S : World → Prop} {N : Act → World → Prop} {w0 w : World} {a : Act} {ex : List Nat} {ks : List (Option Nat)} {ps : List (Option Obj → Prop)} {t : OT}
theorem t_reK (S0 : St w0 w ex ks ps) (h : ∀ w', St w0 w' ex ks ps → S w') (hk : St w0 w ex ks ps → treeH P ops Q (fun w' => St w0 w' ex ks ps) N t a w) : treeH P ops Q S N (.re t) a w := t_re h (hk S0)
end
/-! a guard that names an operation which was not done -/
section
variable {P : Program} {ops : Array Oper} {Q : Exit → Act → World → Prop} {S : World → Prop} {N : Act → World → Prop} {n : Nat} {f : Nat → Value} {w : World} {rest : List Oper} {rest' : List (Bool × Oper)} {j d : Nat} {oj : Oper} {want c : Bool}
variable {d0 : Option Tmp} {op0 : Op} {ty0 : TypeId} {ps0 : String} {af0 : Array Edge} {g0 : Option (Nat × Bool)}
theorem wanted_U {o : Oper} (hg : o.guard = some (j, want)) (hj : ops[j]? = some oj) (hd : oj.dst = some d) (hv : ev n f (.tmp d) = undef) : Region.wanted o (yielded ops (F n f).tmps) = false := by
  have h1 := F_getElem? n f d
  have hy : yielded ops (F n f).tmps j = none := by
    unfold yielded
    simp only [hj, hd, Option.bind_some]
    rw [h1]
    by_cases h : d < n
    · have hb : Nat.blt d n = true := by simpa [Nat.blt_eq] using h
      change (bif Nat.blt d n then f d else undef) = undef at hv
      rw [hb] at hv
      simp only [cond_true] at hv
      rw [if_pos h, hv]
      rfl
    · rw [if_neg h]
  unfold Region.wanted
  rw [hg]
  simp only [hy]
  rfl
theorem p_noU (hg : g0 = some (j, want)) (hj : ops[j]? = some oj) (hd : oj.dst = some d) (hv : ev n f (.tmp d) = undef) (h : wpList P ops Q rest (F n (updo f d0 undef)) w) : wpList P ops Q ({ dst := d0, op := op0, type := ty0, pos := ps0, after := af0, guard := g0 } :: rest) (F n f) w :=
  wpList_step fun K hK => by
    rw [wanted_U hg hj hd hv, if_neg (by simp)]
    exact hK _ _ (by rw [put_F]; exact h)
theorem q_noU (hg : g0 = some (j, want)) (hj : ops[j]? = some oj) (hd : oj.dst = some d) (hv : ev n f (.tmp d) = undef) (hS : S w) (h : seqH P ops Q S N rest' (F n (updo f d0 undef)) w) : seqH P ops Q S N ((c, { dst := d0, op := op0, type := ty0, pos := ps0, after := af0, guard := g0 }) :: rest') (F n f) w := by
  cases c with
  | true => exact ⟨undef, .inr ⟨by rw [wanted_U hg hj hd hv], rfl⟩, hS, by rw [put_F]; exact h⟩
  | false =>
    unfold seqH
    rw [wanted_U hg hj hd hv, if_neg (by simp)]
    exact ⟨hS, by rw [put_F]; exact h⟩
end
end Go.Proofs.Ytdhfiamgmokfbaa.E

/- Strings out of bytes and back, the last bit turned, rows that are made, parts of rows. It proves no statement by itself. -/
set_option linter.unusedSimpArgs false
set_option linter.unusedVariables false
namespace Go.Proofs.Ytdhfiamgmokfbaa.E
open Go Go.RowKit
theorem dec_ne {p q : Prop} [Decidable p] [Decidable q] (h : p ↔ q) (e : (decide p == decide q) = false) : False := by
  have : decide p = decide q := decide_eq_decide.2 h
  rw [this] at e
  cases hq : decide q <;> rw [hq] at e <;> cases e
def zsum : List Nat := List.replicate 32 0
theorem length_zsum : zsum.length = 32 := by simp [zsum]
theorem copy_all {z xs : List Value} {m n : Nat} (hz : z.length = n) (hx : xs.length = n) (hm : m = n) : (xs.take n ++ z.toArray.toList.drop (min m n)).toArray = xs.toArray := by
  subst hm
  rw [List.take_of_length_le (Nat.le_of_eq hx), List.drop_of_length_le (by simp [hz])]
  simp
def strOf (l : List Nat) : ByteArray := strOfNums (l.map fun (x : Nat) => (x : Int))
theorem strOf_list (l : List Nat) : (strOf l).toList = l.map UInt8.ofNat := by
  rw [ByteArray.toList_eq]
  unfold strOf
  rw [strOfNums_data, List.map_map]
  rfl
theorem u8s_inj : ∀ {a b : List Nat}, (∀ x ∈ a, x < 256) → (∀ x ∈ b, x < 256) → a.map UInt8.ofNat = b.map UInt8.ofNat → a = b
  | [], [], _, _, _ => rfl
  | [], _ :: _, _, _, h => by simp at h
  | _ :: _, [], _, _, h => by simp at h
  | x :: a, y :: b, ha, hb, h => by
    simp only [List.map_cons, List.cons.injEq] at h
    have h2 := congrArg UInt8.toNat h.1
    simp only [UInt8.toNat_ofNat'] at h2
    have := ha x (by simp)
    have := hb y (by simp)
    rw [u8s_inj (fun z hz => ha z (by simp [hz])) (fun z hz => hb z (by simp [hz])) h.2, show x = y by omega]
theorem strOf_beq {a b : List Nat} (ha : ∀ x ∈ a, x < 256) (hb : ∀ x ∈ b, x < 256) : (strOf a == strOf b) = decide (a = b) := by
  rw [beq_toListBytes, strOf_list, strOf_list]
  by_cases h : a = b
  · subst h; simp
  · have : ¬ a.map UInt8.ofNat = b.map UInt8.ofNat := fun e => h (u8s_inj ha hb e)
    simp [h, this]
theorem strOf_bne {a b : List Nat} (ha : ∀ x ∈ a, x < 256) (hb : ∀ x ∈ b, x < 256) : (strOf a != strOf b) = decide (¬ a = b) := by
  rw [bne, strOf_beq ha hb]; by_cases h : a = b <;> simp [h]
def xor1 (a : Int) : Int := a + 1 - 2 * (a % 2)
theorem nat_xor1 (n : Nat) : n ^^^ 1 = n + 1 - 2 * (n % 2) := by
  rcases Nat.mod_two_eq_zero_or_one n with h | h
  · have : n = 2 * (n / 2) := by omega
    rw [h]
    have e : n ^^^ 1 = n + 1 := by
      apply Nat.eq_of_testBit_eq
      intro i
      cases i with
      | zero => simp [Nat.testBit_zero]; omega
      | succ i =>
        rw [Nat.testBit_xor, Nat.testBit_succ, Nat.testBit_succ, Nat.testBit_succ]
        simp
        congr 1
        omega
    omega
  · have e : n ^^^ 1 = n - 1 := by
      apply Nat.eq_of_testBit_eq
      intro i
      cases i with
      | zero => simp [Nat.testBit_zero]; omega
      | succ i =>
        rw [Nat.testBit_xor, Nat.testBit_succ, Nat.testBit_succ, Nat.testBit_succ]
        simp
        congr 1
        omega
    omega
/-- a block of bytes that is only read -/
def Fz (n : Nat) (xs : List Value) : Option Obj → Prop := fun o => xs.length = n ∧ ∃ cs t fr, o = some (.cells cs t fr) ∧ n ≤ cs.size ∧ cs.toList.take n = xs
section
variable {w0 w : World} {ex : List Nat} {ks : List (Option Nat)} {ps : List (Option Obj → Prop)}
theorem St.rdFz (S : St w0 w ex ks ps) (i : Nat) {b n : Nat} {xs : List Value} (hk : ks[i]? = some (some b)) (hp : ps[i]? = some (Fz n xs)) : Rd w 1 (some ⟨b, 0, none⟩) n xs := by
  obtain ⟨hl, cs, t, fr, ho, hn, ht⟩ := S.own i _ _ hk hp
  refine ⟨by omega, fun j u hu => ⟨_, rfl, ?_⟩⟩
  rw [add_lit, cell_of_row w b j cs t fr (by simpa using ho)]
  rw [← ht, List.getElem?_take] at hu
  split at hu
  · simpa using hu
  · cases hu
theorem flat_take {α : Type} {c : α → List Value} {s : Nat} {xs : List α} (h : ∀ x ∈ xs, (c x).length = s) (m : Nat) : (xs.flatMap c).take (m * s) = (xs.take m).flatMap c := by
  induction xs generalizing m with
  | nil => simp
  | cons x xs ih =>
    cases m with
    | zero => simp
    | succ m =>
      have hx := h x (by simp)
      rw [List.flatMap_cons, List.take_succ_cons, List.flatMap_cons, ← ih (fun y hy => h y (by simp [hy])), List.take_append, hx, List.take_of_length_le (by rw [hx, Nat.add_mul]; omega), show (m + 1) * s - s = m * s by rw [Nat.add_mul]; omega]
theorem flat_drop {α : Type} {c : α → List Value} {s : Nat} {xs : List α} (h : ∀ x ∈ xs, (c x).length = s) (m : Nat) : (xs.flatMap c).drop (m * s) = (xs.drop m).flatMap c := by
  induction xs generalizing m with
  | nil => simp
  | cons x xs ih =>
    cases m with
    | zero => simp
    | succ m =>
      have hx := h x (by simp)
      rw [List.flatMap_cons, List.drop_succ_cons, ← ih (fun y hy => h y (by simp [hy])), List.drop_append, hx, List.drop_of_length_le (by rw [hx, Nat.add_mul]; omega), List.nil_append, show (m + 1) * s - s = m * s by rw [Nat.add_mul]; omega]
theorem Rd.take_f {α : Type} {c : α → List Value} {s n m : Nat} {A : Option Addr} {xs : List α} (hl : ∀ x ∈ xs, (c x).length = s) (h : Rd w s A n (xs.flatMap c)) (hm : m ≤ n) : Rd w s A m ((xs.take m).flatMap c) := by
  have := h.take hm
  rwa [flat_take hl] at this
theorem Rd.drop_f {α : Type} {c : α → List Value} {s n m cap : Nat} {A : Option Addr} {xs : List α} (hl : ∀ x ∈ xs, (c x).length = s) (h : Rd w s A n (xs.flatMap c)) (hm : m ≤ n) (hc : n ≤ cap) : Rd w s (if cap = m then A else A.map (·.add (m * s))) (n - m) ((xs.drop m).flatMap c) := by
  have := h.drop hm hc
  rwa [flat_drop hl] at this
theorem All32.len {L : List (List Nat)} (h : All32 L) : ∀ x ∈ L, (bv x).length = 32 := fun x hx => by rw [bv_length]; exact h x hx
theorem Rd.take_sv {n m : Nat} {A : Option Addr} {L : List (List Nat)} (hL : All32 L) (h : Rd w 32 A n (sv L)) (hm : m ≤ n) : Rd w 32 A m (sv (L.take m)) := Rd.take_f (c := bv) hL.len h hm
theorem Rd.drop_sv {n m cap : Nat} {A : Option Addr} {L : List (List Nat)} (hL : All32 L) (h : Rd w 32 A n (sv L)) (hm : m ≤ n) (hc : n ≤ cap) : Rd w 32 (if cap = m then A else A.map (·.add (m * 32))) (n - m) (sv (L.drop m)) := Rd.drop_f (c := bv) hL.len h hm hc
theorem All32.take {L : List (List Nat)} (h : All32 L) (m : Nat) : All32 (L.take m) := fun x hx => h x (List.mem_of_mem_take hx)
theorem All32.drop {L : List (List Nat)} (h : All32 L) (m : Nat) : All32 (L.drop m) := fun x hx => h x (List.mem_of_mem_drop hx)
theorem made_flat {α : Type} {c : α → List Value} {x : α} {z : Array Value} (h : z.toList = c x) (n : Nat) : (madeCells z (n * z.size)).toList = (List.replicate n x).flatMap c := by
  have hl : ∀ y ∈ List.replicate n x, (c y).length = z.size := fun y hy => by rw [(List.mem_replicate.1 hy).2, ← h]; simp
  apply List.ext_getElem?
  intro j
  by_cases hj : j < n * z.size
  · have hs : 0 < z.size := by
      rcases Nat.eq_zero_or_pos z.size with h0 | h0
      · rw [h0] at hj; omega
      · exact h0
    have hd : j / z.size < n := (Nat.div_lt_iff_lt_mul hs).2 hj
    have hm : j % z.size < z.size := Nat.mod_lt _ hs
    have e := flatMap_at (c := c) hl (i := j / z.size) (j := j % z.size) (x := x) (by rw [List.getElem?_replicate, if_pos hd]) hm
    rw [show j / z.size * z.size + j % z.size = j by rw [Nat.mul_comm]; exact Nat.div_add_mod j z.size] at e
    rw [e, ← h]
    simp only [madeCells, Array.toList_map, List.getElem?_map, Array.toList_range, List.getElem?_range hj, Option.map_some, Array.getElem?_toList]
    rw [getElem!_pos z _ hm, Array.getElem?_eq_getElem hm]
  · rw [List.getElem?_eq_none (by rw [Array.length_toList, size_madeCells]; omega), List.getElem?_eq_none (by rw [flatMap_len hl, List.length_replicate]; omega)]
end
section
variable {P : Program} {ρ : Operand → Value} {d : Option Tmp} {x y : Operand} {t ty yt : TypeId} {ps : String} {af : Array Edge} {g : Option (Nat × Bool)} {w w0 : World} {k : IntKind} {ex : List Nat} {ks : List (Option Nat)} {pp : List (Option Obj → Prop)}
theorem e_bytesStr {A : Option Addr} {n c : Nat} {l : List Nat} {s e : TypeId} (hx : ρ x = .slice A n c) (hs : P.underlying s = some (.slice e)) (he : P.underlying e = some (.int .u8)) (ht : P.underlying t = some .string) (R : Rd w 1 A n (bv l)) :
    (execOp ρ { dst := d, op := .convert s t x, type := ty, pos := ps, after := af, guard := g }).run P w = .ok (.value (.string (strOf l))) w := by
  have hl : l.length = n := by simpa using R.1
  have key : (convert s t (.slice A n c)).run P w = .ok (.string (strOf l)) w := by
    rw [run_convert_bytes_string w s t e A n c hs he ht]
    cases A with
    | none =>
      have : l = [] := by
        cases l with
        | nil => rfl
        | cons a l => obtain ⟨ad, h, _⟩ := R.2 0 _ rfl; cases h
      subst this
      simp [Conv.bytesToString, strOf, strOfNums, ByteArray.empty, ByteArray.emptyWithCapacity]
      rfl
    | some a =>
      have hr := run_loadCells_list (P := P) w a (bv l) (fun j v hv => R.cell hv)
      rw [bv_length, hl] at hr
      have e1 : bv l = (l.map fun (x : Nat) => (x : Int)).map (Value.int .u8) := by simp [bv]
      rw [e1] at hr
      rw [run_bytesToString w a n c _ hr, foldl_push_bytes]
      simp [strOf, strOfNums, ByteArray.empty, ByteArray.emptyWithCapacity]
      rfl
  show ((do pure (.value (← convert s t (ρ x)))) : Sem Next).run P w = _
  rw [hx]
  simp only [Sem.run_bind, key, Result.andThen_ok, Sem.run_pure]
theorem e_eqlT {u v : List Nat} (hx : ρ x = .string (strOf u)) (hy : ρ y = .string (strOf v)) (hu : ∀ z ∈ u, z < 256) (hv : ∀ z ∈ v, z < 256) : (execOp ρ { dst := d, op := .binOp .eql t x y yt, type := ty, pos := ps, after := af, guard := g }).run P w = .ok (.value (.bool (decide (u = v)))) w := by
  rw [← strOf_beq hu hv]; exact e_eqlS hx hy
theorem e_neqT {u v : List Nat} (hx : ρ x = .string (strOf u)) (hy : ρ y = .string (strOf v)) (hu : ∀ z ∈ u, z < 256) (hv : ∀ z ∈ v, z < 256) : (execOp ρ { dst := d, op := .binOp .neq t x y yt, type := ty, pos := ps, after := af, guard := g }).run P w = .ok (.value (.bool (decide (¬ u = v)))) w := by
  rw [← strOf_bne hu hv]; exact e_neqS hx hy
/-- copy to the front of a block of its own -/
theorem d_copy0 {e : TypeId} {b dn dc m c u : Nat} {A : Option Addr} {cs : Array Value} {news : List Value} {bt : TypeId} (S : St w0 w ex ks pp) (i : Nat) (hk : ks[i]? = some (some b)) (hp : pp[i]? = some (Ex cs bt))
    (ht : P.underlying t = some (.slice e)) (hi : (P.info? e).map (·.size) = some 1) (hx : ρ x = .slice (some ⟨b, 0, none⟩) dn dc) (hy : ρ y = .slice A m c) (hr : Rd w 1 A m news) (h1 : ∀ u ∈ news, u.oneCell' = true) (hfit : min m dn ≤ cs.size) :
    Does P ρ { dst := d, op := .call { callee := .builtin .copy, args := #[x, y], argTypes := #[t, u] }, type := ty, pos := ps, after := af, guard := g } w
      fun v w' => v = .int .i64 ((min m dn : Nat) : Int) ∧ St w0 w' ex ks (pp.set i (Ex (news.take dn ++ cs.toList.drop (min m dn)).toArray bt)) := by
  have h := d_copy (P := P) (ρ := ρ) (d := d) (x := x) (y := y) (t := t) (ty := ty) (ps := ps) (af := af) (g := g) (u := u) (off := 0) S i hk hp ht hi (by rw [hx, add_zero]) hy hr h1 (by omega)
  simpa only [List.take_zero, List.nil_append, Nat.zero_add] using h
/-- '[]byte(s)' of a string that is known -/
theorem d_strBytes {s : ByteArray} {sr e : TypeId} (S : St w0 w ex ks pp) (l : List Nat) (hx : ρ x = .string s) (hs : P.underlying sr = some .string) (hd : P.underlying t = some (.slice e)) (he : P.underlying e = some (.int .u8)) (hl : s.data.toList.map (·.toNat) = l) :
    Does P ρ { dst := d, op := .convert sr t x, type := ty, pos := ps, after := af, guard := g } w fun v w' => ∃ b c, v = .slice (some ⟨b, 0, none⟩) l.length c ∧ l.length ≤ c ∧ St w0 w' ex (some b :: ks) (Fz l.length (bv l) :: pp) := by
  have hr := run_bytes_of_string (P := P) w sr t e s hs hd he
  have hsz : s.size = l.length := by
    rw [← hl, List.length_map, Array.length_toList]
    rfl
  have hrow : (bytesRow s (grownCap w s.size 0 e)).toList = bv l ++ List.replicate (grownCap w s.size 0 e - s.size) (.int .u8 0) := by
    unfold bytesRow
    rw [Array.toList_append, Array.toList_map, Array.toList_replicate, ← hl]
    simp [bv]
  have hge := grownCap_ge w s.size 0 e
  refine .inl ⟨_, _, ?_, w.heap.size, grownCap w s.size 0 e, rfl, ?_, S.drew.alloc (.cells (bytesRow s (grownCap w s.size 0 e)) e ((bytesRow s (grownCap w s.size 0 e)).size, (bytesRow s (grownCap w s.size 0 e)).size + 1)) _ ⟨by rw [bv_length], _, _, _, rfl, ?_, ?_⟩⟩
  · show ((do pure (.value (← convert sr t (ρ x)))) : Sem Next).run P w = _
    rw [hx]
    simp only [Sem.run_bind, hr, Result.andThen_ok, Sem.run_pure, hsz]
  · omega
  · rw [← Array.length_toList, hrow, List.length_append, bv_length]; omega
  · rw [hrow, ← bv_length l, List.take_left]
theorem bits_xor1 {a : Int} (h : 0 ≤ a ∧ a < 9223372036854775807) : bits .xor .i64 a 1 = xor1 a := by
  obtain ⟨n, rfl⟩ := Int.eq_ofNat_of_zero_le h.1
  show IntKind.i64.wrap ((BitVec.ofInt 64 (n : Int) ^^^ BitVec.ofInt 64 1).toNat : Int) = _
  have e1 : (BitVec.ofInt 64 1).toNat = 1 := by decide
  rw [BitVec.toNat_xor, ofInt_nat, e1, Nat.mod_eq_of_lt (by omega), nat_xor1, IntWalk.i64_in _ (by omega), xor1]
  omega
theorem e_xor1 {a : Int} (hx : ρ x = .int .i64 a) (hy : ρ y = .int .i64 1) (h : 0 ≤ a ∧ a < 9223372036854775807) : (execOp ρ { dst := d, op := .binOp .xor t x y yt, type := ty, pos := ps, after := af, guard := g }).run P w = .ok (.value (.int .i64 (xor1 a))) w :=
  e_int .xor hx hy fun w => by
    show (Op.intBits .xor .i64 a 1).run P w = _
    unfold Op.intBits
    exact congrArg (fun z => Result.ok (Value.int .i64 z) w) (bits_xor1 h)
/-- a row of n zero values -/
theorem d_makeN {α : Type} {c : α → List Value} {z0 : α} {e : TypeId} {size bytes : Nat} {z : Value} (S : St w0 w ex ks pp) (ht : P.underlying t = some (.slice e)) (he : El P e size bytes) (hz0 : Zv P e z) (h1 : z.cells.toList = c z0) (n : Nat) {kl kc : IntKind} (hx : ρ x = .int kl (n : Int)) (hy : ρ y = .int kc (n : Int)) (hb : bytes * n ≤ 281474976710656) (h63 : n ≤ maxLen) :
    Does P ρ { dst := d, op := .makeSlice t x y, type := ty, pos := ps, after := af, guard := g } w fun v w' => ∃ b, v = .slice (at_ (some b)) n n ∧ St w0 w' ex (some b :: ks) (Rw e size n n ((List.replicate n z0).flatMap c) :: pp) := by
  obtain ⟨⟨i, z', hi, hz, hsz, hby, hzs⟩, hpos⟩ := he
  have ez : z' = z := by
    have h := hz0 w
    simp [zeroValue, typeInfo, hi, hz] at h
    exact h
  subst ez
  have h9 : (n : Int) ≤ 9223372036854775807 := by unfold maxLen at h63; omega
  have hr := run_make (P := P) w t e i z' ht hi hz kl kc (n : Int) (n : Int) (by omega) (Int.le_refl _) (by rw [hby, ← Int.natCast_mul]; omega) h9
  have hm := made_flat (c := c) h1 n
  rw [hzs] at hm
  have hlen : ((List.replicate n z0).flatMap c).length = n * size := by rw [← hm, Array.length_toList, size_madeCells]
  refine .inl ⟨_, _, ?_, w.heap.size, rfl, S.alloc (.cells (madeCells z'.cells (n * size)) e) _ ⟨hlen, .inr ⟨_, rfl, Nat.le_refl _, h63, by rw [size_madeCells], by rw [hm, List.take_of_length_le (by omega)]⟩⟩⟩
  show ((do pure (.value (← Instr.makeSlice t (ρ x) (ρ y)))) : Sem Next).run P w = _
  rw [hx, hy]
  simp only [Sem.run_bind, hr, Result.andThen_ok, Sem.run_pure, Int.toNat_natCast, hsz]
  rfl
end
end Go.Proofs.Ytdhfiamgmokfbaa.E

/- Slices that lie apart from blocks that a callee turns; bytes put together. It proves no statement by itself. -/
set_option linter.unusedSimpArgs false
set_option linter.unusedVariables false
namespace Go.Proofs.Ytdhfiamgmokfbaa.E
open Go Go.RowKit
/-- what a slice shows lies in none of the blocks -/
def Off (A : Option Addr) (n : Nat) (bs : List Nat) : Prop := ∀ ad, A = some ad → 0 < n → ad.block ∉ bs
theorem Off.nil {A : Option Addr} {n : Nat} : Off A n [] := fun _ _ _ h => by cases h
theorem Off.none_ {n : Nat} {bs : List Nat} : Off none n bs := fun _ h => by cases h
theorem Off.zero {A : Option Addr} {bs : List Nat} : Off A 0 bs := fun _ _ h => absurd h (Nat.lt_irrefl 0)
theorem Off.le {A : Option Addr} {n m : Nat} {bs : List Nat} (h : Off A n bs) (hm : m ≤ n) : Off A m bs := fun ad e h0 => h ad e (by omega)
theorem Off.sl {A : Option Addr} {n m c k s : Nat} {bs : List Nat} (h : Off A n bs) (hm : m ≤ n) : Off (if c = k then A else A.map (·.add (k * s))) m bs := by
  intro ad e h0
  split at e
  · exact h ad e (by omega)
  · obtain ⟨a, ha, rfl⟩ := Option.map_eq_some_iff.1 e
    have hb : (a.add (k * s)).block = a.block := by unfold Addr.add; split <;> rfl
    rw [hb]
    exact h a ha (by omega)
section
variable {w0 w w' : World} {ex ex' : List Nat} {ks ks' : List (Option Nat)} {ps ps' : List (Option Obj → Prop)}
theorem St.rdOff (S : St w0 w ex ks ps) {s n : Nat} {A : Option Addr} {xs : List Value} (R : Rd w0 s A n xs) (h : Off A n ex) : Rd w s A n xs := by
  rcases Nat.eq_zero_or_pos n with h0 | h0
  · subst h0
    have : xs = [] := List.eq_nil_of_length_eq_zero (by rw [R.1, Nat.zero_mul])
    subst this
    exact Rd.nil _ _ _
  · exact R.keep S fun ad e => h ad e h0
theorem St.swap {a b : Option Nat} {p q : Option Obj → Prop} (S : St w0 w ex (a :: b :: ks) (p :: q :: ps)) : St w0 w ex (b :: a :: ks) (q :: p :: ps) := by
  let σ : Nat → Nat := fun i => match i with | 0 => 1 | 1 => 0 | i + 2 => i + 2
  have hk : ∀ i : Nat, (b :: a :: ks)[i]? = (a :: b :: ks)[σ i]? := fun i => by match i with | 0 => rfl | 1 => rfl | i + 2 => rfl
  have hp : ∀ i : Nat, (q :: p :: ps)[i]? = (p :: q :: ps)[σ i]? := fun i => by match i with | 0 => rfl | 1 => rfl | i + 2 => rfl
  have hm : ∀ x, x ∈ b :: a :: ks → x ∈ a :: b :: ks := fun x h => by simp only [List.mem_cons] at h ⊢; rcases h with h | h | h <;> simp [h]
  refine ⟨S.os, S.tape, S.output, S.size, S.old, fun i k r h h' => S.own (σ i) k r (by rw [← hk]; exact h) (by rw [← hp]; exact h'), fun x h => S.lt x (hm _ h), fun x h => S.fresh x (hm _ h), fun i j x h h' => ?_⟩
  have e := S.nodup (σ i) (σ j) x (by rw [← hk]; exact h) (by rw [← hk]; exact h')
  match i, j, e with
  | 0, 0, _ => rfl
  | 1, 1, _ => rfl
  | 0, 1, e => simp [σ] at e
  | 1, 0, e => simp [σ] at e
  | 0, j + 2, e => simp [σ] at e
  | 1, j + 2, e => simp [σ] at e
  | i + 2, 0, e => simp [σ] at e
  | i + 2, 1, e => simp [σ] at e
  | i + 2, j + 2, e => simpa [σ] using e
theorem St.offOld (S : St w0 w ex ks ps) (σ : List Nat) {s n : Nat} {A : Option Addr} {xs : List Value} (R : Rd w0 s A n xs) (hs : 0 < s) (h : Off A n ex) (hσ : (σ.all fun i => Nat.blt i ks.length) = true) : Off A n (exOf (σ.map fun i => ks.getD i none)) := by
  intro ad e h0 hm
  obtain ⟨i, hi, hk⟩ := List.mem_map.1 (mem_exOf.1 hm)
  have hlt : i < ks.length := by simpa [Nat.blt_eq] using List.all_eq_true.1 hσ i hi
  have hk' : some ad.block ∈ ks := by
    rw [List.getD_eq_getElem?_getD, List.getElem?_eq_getElem hlt] at hk
    rw [← hk]
    exact List.getElem_mem hlt
  obtain ⟨ad', e', hc⟩ := R.2 0 (xs[0]'(by rw [R.1]; exact Nat.mul_pos h0 hs)) (List.getElem?_eq_getElem _)
  rw [e] at e'
  cases e'
  have hlt0 := World.block_lt_of_cell? _ _ hc
  rw [add_zero] at hlt0
  rcases S.fresh _ hk' with h1 | h1
  · omega
  · exact h ad e h0 h1
theorem St.offRow (S : St w0 w ex ks ps) (j : Nat) (σ : List Nat) {n : Nat} {k : Option Nat} (hj : ks[j]? = some k) (hσ : (σ.all fun i => Nat.blt i ks.length && !Nat.beq i j) = true) : Off (at_ k) n (exOf (σ.map fun i => ks.getD i none)) := by
  intro ad e h0 hm
  obtain ⟨i, hi, hk⟩ := List.mem_map.1 (mem_exOf.1 hm)
  have hh := List.all_eq_true.1 hσ i hi
  simp only [Bool.and_eq_true, Nat.blt_eq, Bool.not_eq_true'] at hh
  have hij : ¬ i = j := fun e => by subst e; simp at hh
  rw [List.getD_eq_getElem?_getD, List.getElem?_eq_getElem hh.1] at hk
  cases k with
  | none => cases e
  | some b =>
    have e1 : ad = ⟨b, 0, none⟩ := by simpa using e.symm
    subst e1
    exact hij (S.nodup i j b (by rw [List.getElem?_eq_getElem hh.1]; exact congrArg some hk) hj)
theorem St.offBlk (S : St w0 w ex ks ps) (j : Nat) (σ : List Nat) {n b o : Nat} (hj : ks[j]? = some (some b)) (hσ : (σ.all fun i => Nat.blt i ks.length && !Nat.beq i j) = true) : Off (some ((⟨b, 0, none⟩ : Addr).add o)) n (exOf (σ.map fun i => ks.getD i none)) := by
  have h := S.offRow j σ (n := n) hj hσ
  intro ad e h0
  cases e
  have hb : ((⟨b, 0, none⟩ : Addr).add o).block = b := by unfold Addr.add; split <;> rfl
  rw [hb]
  exact h _ rfl h0
theorem St.offBlk0 (S : St w0 w ex ks ps) (j : Nat) (σ : List Nat) {n b : Nat} (hj : ks[j]? = some (some b)) (hσ : (σ.all fun i => Nat.blt i ks.length && !Nat.beq i j) = true) : Off (some (⟨b, 0, none⟩ : Addr)) n (exOf (σ.map fun i => ks.getD i none)) := S.offRow j σ (k := some b) hj hσ
end
section
variable {P : Program} {ρ : Operand → Value} {d : Option Tmp} {x y : Operand} {t ty yt : TypeId} {ps : String} {af : Array Edge} {g : Option (Nat × Bool)} {w w0 : World} {k : IntKind} {m n : Nat}
theorem bits_or8 {a b : Nat} (ha : a < 256) (hb : b < 256) : bits .or .u8 (a : Int) (b : Int) = ((a ||| b : Nat) : Int) := by
  have h := Nat.or_lt_two_pow (n := 8) ha hb
  show IntKind.u8.wrap ((BitVec.ofInt 8 (a : Int) ||| BitVec.ofInt 8 (b : Int)).toNat : Int) = _
  rw [BitVec.toNat_or, ofInt_nat, ofInt_nat, wrap8_nat, Nat.mod_eq_of_lt ha, Nat.mod_eq_of_lt hb, Nat.mod_eq_of_lt h]
theorem e_or8 (hx : ρ x = .int .u8 (m : Int)) (hy : ρ y = .int .u8 (n : Int)) (hm : m < 256) (hn : n < 256) : (execOp ρ { dst := d, op := .binOp .or t x y yt, type := ty, pos := ps, after := af, guard := g }).run P w = .ok (.value (.int .u8 ((m ||| n : Nat) : Int))) w :=
  e_int .or hx hy fun w => congrArg (fun z => Result.ok (Value.int .u8 z) w) (bits_or8 hm hn)
theorem bits_and8 {a b : Nat} (ha : a < 256) (hb : b < 256) : bits .and .u8 (a : Int) (b : Int) = ((a &&& b : Nat) : Int) := by
  have h : a &&& b < 256 := Nat.lt_of_le_of_lt Nat.and_le_left ha
  show IntKind.u8.wrap ((BitVec.ofInt 8 (a : Int) &&& BitVec.ofInt 8 (b : Int)).toNat : Int) = _
  rw [BitVec.toNat_and, ofInt_nat, ofInt_nat, wrap8_nat, Nat.mod_eq_of_lt ha, Nat.mod_eq_of_lt hb, Nat.mod_eq_of_lt h]
theorem e_and8 (hx : ρ x = .int .u8 (m : Int)) (hy : ρ y = .int .u8 (n : Int)) (hm : m < 256) (hn : n < 256) : (execOp ρ { dst := d, op := .binOp .and t x y yt, type := ty, pos := ps, after := af, guard := g }).run P w = .ok (.value (.int .u8 ((m &&& n : Nat) : Int))) w :=
  e_int .and hx hy fun w => congrArg (fun z => Result.ok (Value.int .u8 z) w) (bits_and8 hm hn)
theorem bits_or64 {a b : Nat} (ha : a < 18446744073709551616) (hb : b < 18446744073709551616) : bits .or .u64 (a : Int) (b : Int) = ((a ||| b : Nat) : Int) := by
  have h := Nat.or_lt_two_pow (n := 64) ha hb
  show IntKind.u64.wrap ((BitVec.ofInt 64 (a : Int) ||| BitVec.ofInt 64 (b : Int)).toNat : Int) = _
  rw [BitVec.toNat_or, ofInt_nat, ofInt_nat, wrapU64, Nat.mod_eq_of_lt ha, Nat.mod_eq_of_lt hb, Nat.mod_eq_of_lt h]
theorem e_or64 (hx : ρ x = .int .u64 (m : Int)) (hy : ρ y = .int .u64 (n : Int)) (hm : m < 18446744073709551616) (hn : n < 18446744073709551616) : (execOp ρ { dst := d, op := .binOp .or t x y yt, type := ty, pos := ps, after := af, guard := g }).run P w = .ok (.value (.int .u64 ((m ||| n : Nat) : Int))) w :=
  e_int .or hx hy fun w => congrArg (fun z => Result.ok (Value.int .u64 z) w) (bits_or64 hm hn)
theorem e_shlU64 {yk : IntKind} (n : Nat) (hx : ρ x = .int .u64 (m : Int)) (hy : ρ y = .int yk (n : Int)) (hn : n ≤ 64) : (execOp ρ { dst := d, op := .binOp .shl t x y yt, type := ty, pos := ps, after := af, guard := g }).run P w = .ok (.value (.int .u64 (((m <<< n) % 18446744073709551616 : Nat) : Int))) w :=
  run_bin (by
    intro w
    rw [hx, hy]
    have h : min n 64 = n := by omega
    simp only [binOp, Op.shift, Int.toNat_natCast, IntKind.bits, h]
    rw [if_neg (by omega)]
    simp only [Sem.run_pure, Nat.shiftLeft_eq]
    have e : ((m : Int) * 2 ^ n) = ((m * 2 ^ n : Nat) : Int) := by simp
    rw [e, wrapU64]) (by intro w; rw [hx]; rfl)
end
theorem or128 {x : Nat} (h : x < 256) : x ||| 128 = x % 128 + 128 := by
  have e : x = x / 128 * 128 + x % 128 := by omega
  have h1 : x / 128 < 2 := by omega
  have key : ∀ y : Nat, y < 128 → (y ||| 128 = y + 128) ∧ ((128 + y) ||| 128 = y + 128) := by decide
  have h2 := key (x % 128) (Nat.mod_lt _ (by decide))
  rcases (by omega : x / 128 = 0 ∨ x / 128 = 1) with h3 | h3
  · rw [show x ||| 128 = (x % 128) ||| 128 by rw [show x % 128 = x by omega]]; exact h2.1
  · rw [show x ||| 128 = (128 + x % 128) ||| 128 by rw [show 128 + x % 128 = x by omega]]; exact h2.2
/-! numbers as bytes -/
def vnum (v : Nat) : List Nat := if h : v < 128 then [v] else (v % 128 + 128) :: vnum (v / 128)
termination_by v
decreasing_by omega
theorem vnum_small {v : Nat} (h : v < 128) : vnum v = [v] := by rw [vnum, dif_pos h]
theorem vnum_big {v : Nat} (h : ¬ v < 128) : vnum v = (v % 128 + 128) :: vnum (v / 128) := by rw [vnum, dif_neg h]
theorem vnum_len : ∀ (k v : Nat), v < 128 ^ (k + 1) → (vnum v).length ≤ k + 1
  | 0, v, h => by rw [vnum_small (by simpa using h)]; simp
  | k + 1, v, h => by
    by_cases hv : v < 128
    · rw [vnum_small hv]; simp
    · rw [vnum_big hv, List.length_cons]
      have := vnum_len k (v / 128) (by rw [Nat.div_lt_iff_lt_mul (by decide)]; rw [Nat.pow_succ] at h; exact h)
      omega
theorem vnum_lt : ∀ (v : Nat), ∀ x ∈ vnum v, x < 256 := by
  intro v
  induction v using Nat.strongRecOn with
  | _ v ih =>
    intro x hx
    by_cases hv : v < 128
    · rw [vnum_small hv] at hx; simp at hx; omega
    · rw [vnum_big hv] at hx
      rcases List.mem_cons.1 hx with h | h
      · omega
      · exact ih (v / 128) (by omega) x h
@[irreducible] def num (a : Int) : List Nat := vnum (a.toNat % 18446744073709551616)
theorem num_len (a : Int) : (num a).length ≤ 10 := by
  unfold num
  exact vnum_len 9 _ (Nat.lt_of_lt_of_le (Nat.mod_lt _ (by decide) : a.toNat % 18446744073709551616 < 18446744073709551616) (by decide))
theorem num_lt (a : Int) : ∀ x ∈ num a, x < 256 := by unfold num; exact vnum_lt _
def nums (l : List Int) : List Nat := l.flatMap num
theorem nums_take (xs : List Int) {g : Nat} (h : g < xs.length) : nums (xs.take (g + 1)) = nums (xs.take g) ++ num (xs.getD g 0) := by
  rw [List.take_add_one, List.getElem?_eq_getElem h, List.getD_eq_getElem?_getD, List.getElem?_eq_getElem h]
  unfold nums
  rw [List.flatMap_append]
  simp
theorem nums_len (l : List Int) : (nums l).length ≤ 10 * l.length := by
  induction l with
  | nil => simp [nums]
  | cons a l ih =>
    have := num_len a
    simp only [nums, List.flatMap_cons, List.length_append, List.length_cons] at ih ⊢
    omega
section
variable {w0 w : World} {ex : List Nat} {ks : List (Option Nat)} {ps : List (Option Obj → Prop)}
theorem St.pen {b : Nat} {k : Option Nat} {n c : Nat} {xs : List Value} {T e : TypeId} {l : List Nat} (S : St w0 w ex (some b :: k :: ks) (Ex (cat [[.slice (at_ k) n c]]).toArray T :: Rw e 1 n c xs :: ps)) (h : xs = bv l) :
    St w0 w ex (some b :: k :: ks) (Ex (cat [[.slice (at_ k) l.length c]]).toArray T :: Rw e 1 l.length c (bv l) :: ps) := by
  have h1 := (S.own 1 _ _ rfl rfl).1
  subst h
  rw [bv_length, Nat.mul_one] at h1
  subst h1
  exact S
end
end Go.Proofs.Ytdhfiamgmokfbaa.E

/- Lists of sums under one sum, as functions on lists. It proves no statement by itself. -/
set_option linter.unusedSimpArgs false
set_option linter.unusedVariables false
namespace Go.Proofs.Ytdhfiamgmokfbaa
open Go Go.RowKit E
def mleaf (s : List Nat) : List Nat := join 1 [s]
def mpair (a b : List Nat) : List Nat := join 2 [a, b]
theorem length_mleaf (s : List Nat) : (mleaf s).length = 32 := length_join _ _
theorem length_mpair (a b : List Nat) : (mpair a b).length = 32 := length_join _ _
def upL : List (List Nat) → List (List Nat)
  | a :: b :: l => mpair a b :: upL l
  | [a] => [a]
  | [] => []
theorem upL_length : ∀ l : List (List Nat), (upL l).length = (l.length + 1) / 2
  | a :: b :: l => by rw [upL, List.length_cons, upL_length l]; simp only [List.length_cons]; omega
  | [a] => by simp [upL]
  | [] => by simp [upL]
theorem upL_all : ∀ {l : List (List Nat)}, All32 l → All32 (upL l)
  | a :: b :: l, h => by
    intro x hx
    rw [upL] at hx
    rcases List.mem_cons.1 hx with rfl | hx
    · exact length_mpair _ _
    · exact upL_all (l := l) (fun y hy => h y (by simp [hy])) x hx
  | [a], h => h
  | [], h => h
theorem upL_append : ∀ (a b : List (List Nat)), a.length % 2 = 0 → upL (a ++ b) = upL a ++ upL b
  | [], b, _ => rfl
  | [x], b, h => by simp at h
  | x :: y :: a, b, h => by
    show mpair x y :: upL (a ++ b) = mpair x y :: (upL a ++ upL b)
    rw [upL_append a b (by simp only [List.length_cons] at h; omega)]
def rootI (l : List (List Nat)) : List Nat := if h : l.length ≤ 1 then l.headD [] else rootI (upL l)
termination_by l.length
decreasing_by rw [upL_length]; omega
theorem rootI_one (x : List Nat) : rootI [x] = x := by rw [rootI, dif_pos (by simp)]; rfl
theorem rootI_up {l : List (List Nat)} (h : ¬ l.length ≤ 1) : rootI l = rootI (upL l) := by rw [rootI, dif_neg h]
/-- the greatest power of two below -/
def hb (n k : Nat) : Nat := if h : 0 < k ∧ 2 * k < n then hb n (2 * k) else k
termination_by n - k
decreasing_by omega
def halfI (n : Nat) : Nat := hb n 1
theorem hb_pow (n : Nat) : ∀ (k j : Nat), k = 2 ^ j → k < n → ∃ i, j ≤ i ∧ hb n k = 2 ^ i ∧ 2 ^ i < n ∧ n ≤ 2 ^ (i + 1) := by
  have key : ∀ m k j : Nat, n - k = m → k = 2 ^ j → k < n → ∃ i, j ≤ i ∧ hb n k = 2 ^ i ∧ 2 ^ i < n ∧ n ≤ 2 ^ (i + 1) := by
    intro m
    induction m using Nat.strongRecOn with
    | _ m ih =>
      intro k j hm hk hn
      have hpos : 0 < k := by rw [hk]; exact Nat.pow_pos (by decide)
      by_cases h : 2 * k < n
      · rw [hb, dif_pos ⟨hpos, h⟩]
        obtain ⟨i, h1, h2, h3, h4⟩ := ih (n - 2 * k) (by omega) (2 * k) (j + 1) rfl (by rw [Nat.pow_succ, hk, Nat.mul_comm]) h
        exact ⟨i, by omega, h2, h3, h4⟩
      · rw [hb, dif_neg (fun h' => h h'.2)]
        exact ⟨j, Nat.le_refl _, hk, by omega, by rw [Nat.pow_succ]; omega⟩
  exact fun k j => key _ k j rfl
theorem half_pow {n : Nat} (h : 2 ≤ n) : ∃ i, halfI n = 2 ^ i ∧ 2 ^ i < n ∧ n ≤ 2 ^ (i + 1) := by
  obtain ⟨i, _, h2, h3, h4⟩ := hb_pow n 1 0 rfl (by omega)
  exact ⟨i, h2, h3, h4⟩
theorem half_lt {n : Nat} (h : 2 ≤ n) : 0 < halfI n ∧ halfI n < n := by
  obtain ⟨i, h1, h2, _⟩ := half_pow h
  have : 0 < 2 ^ i := Nat.pow_pos (by decide)
  omega
theorem pow_unique {n i j : Nat} (h1 : 2 ^ i < n) (h2 : n ≤ 2 ^ (i + 1)) (h3 : 2 ^ j < n) (h4 : n ≤ 2 ^ (j + 1)) : i = j := by
  rcases Nat.lt_trichotomy i j with h | h | h
  · have : 2 ^ (i + 1) ≤ 2 ^ j := Nat.pow_le_pow_right (by decide) h
    omega
  · exact h
  · have : 2 ^ (j + 1) ≤ 2 ^ i := Nat.pow_le_pow_right (by decide) h
    omega
theorem half_half {n : Nat} (h : 3 ≤ n) : halfI n % 2 = 0 ∧ halfI ((n + 1) / 2) = halfI n / 2 ∧ 2 ≤ halfI n := by
  obtain ⟨i, h1, h2, h3⟩ := half_pow (n := n) (by omega)
  obtain ⟨j, k1, k2, k3⟩ := half_pow (n := (n + 1) / 2) (by omega)
  have hi : i ≠ 0 := fun e => by subst e; simp at h3; omega
  obtain ⟨i', rfl⟩ : ∃ i', i = i' + 1 := ⟨i - 1, by omega⟩
  have e1 : 2 ^ (i' + 1) = 2 * 2 ^ i' := by rw [Nat.pow_succ, Nat.mul_comm]
  have e2 : 2 ^ (i' + 1 + 1) = 2 * 2 ^ (i' + 1) := by rw [Nat.pow_succ _ (i' + 1), Nat.mul_comm]
  have hp : 0 < 2 ^ i' := Nat.pow_pos (by decide)
  have : j = i' := pow_unique k2 k3 (by omega) (by omega)
  subst this
  omega
/-- the root as the document has it, of leaves' sums -/
def rec_ (l : List (List Nat)) : List Nat := if h : l.length ≤ 1 then l.headD [] else mpair (rec_ (l.take (halfI l.length))) (rec_ (l.drop (halfI l.length)))
termination_by l.length
decreasing_by
  · have := half_lt (n := l.length) (by omega); rw [List.length_take]; omega
  · have := half_lt (n := l.length) (by omega); rw [List.length_drop]; omega
theorem rec_one {l : List (List Nat)} (h : l.length ≤ 1) : rec_ l = l.headD [] := by rw [rec_, dif_pos h]
theorem rec_two {l : List (List Nat)} (h : ¬ l.length ≤ 1) : rec_ l = mpair (rec_ (l.take (halfI l.length))) (rec_ (l.drop (halfI l.length))) := by rw [rec_, dif_neg h]
theorem upL_one {l : List (List Nat)} (h : l.length ≤ 1) : upL l = l := by
  match l, h with
  | [], _ => rfl
  | [a], _ => rfl
theorem up_split {l : List (List Nat)} (h : 3 ≤ l.length) : upL l = upL (l.take (halfI l.length)) ++ upL (l.drop (halfI l.length)) ∧ (upL (l.take (halfI l.length))).length = halfI (upL l).length := by
  obtain ⟨h1, h2, h3⟩ := half_half h
  have h4 := half_lt (n := l.length) (by omega)
  have hl : (l.take (halfI l.length)).length = halfI l.length := by rw [List.length_take]; omega
  refine ⟨?_, ?_⟩
  · conv => lhs; rw [← List.take_append_drop (halfI l.length) l]
    exact upL_append _ _ (by rw [hl]; exact h1)
  · rw [upL_length, upL_length, hl, h2]; omega
theorem rec_up : ∀ (l : List (List Nat)), rec_ (upL l) = rec_ l := by
  have key : ∀ m, ∀ l : List (List Nat), l.length = m → rec_ (upL l) = rec_ l := by
    intro m
    induction m using Nat.strongRecOn with
    | _ m ih =>
      intro l hm
      by_cases h1 : l.length ≤ 1
      · rw [upL_one h1]
      · by_cases h2 : l.length = 2
        · match l, h2 with
          | [a, b], _ =>
            rw [rec_two (l := [a, b]) (by simp)]
            have e : halfI [a, b].length = 1 := by
              show halfI 2 = 1
              obtain ⟨i, k1, k2, k3⟩ := half_pow (n := 2) (by omega)
              have := half_lt (n := 2) (by omega)
              omega
            rw [e]
            show rec_ [mpair a b] = _
            rw [rec_one (by simp), rec_one (by simp), rec_one (by simp)]
            rfl
        · obtain ⟨e1, e2⟩ := up_split (l := l) (by omega)
          have hlt := half_lt (n := l.length) (by omega)
          have hu : ¬ (upL l).length ≤ 1 := by rw [upL_length]; omega
          rw [rec_two hu, rec_two h1, ← e2]
          conv => lhs; rw [e1]
          rw [List.take_left, List.drop_left, ih _ (by rw [List.length_take]; omega) (l.take (halfI l.length)) rfl, ih _ (by rw [List.length_drop]; omega) (l.drop (halfI l.length)) rfl]
  exact fun l => key _ l rfl
theorem rootI_rec : ∀ (l : List (List Nat)), rootI l = rec_ l := by
  have key : ∀ m, ∀ l : List (List Nat), l.length = m → rootI l = rec_ l := by
    intro m
    induction m using Nat.strongRecOn with
    | _ m ih =>
      intro l hm
      by_cases h1 : l.length ≤ 1
      · rw [rec_one h1, rootI, dif_pos h1]
      · rw [rootI_up h1, ih _ (by rw [upL_length]; omega) (upL l) rfl, rec_up]
  exact fun l => key _ l rfl
/-- what stands beside the way up -/
def sidx (a : Nat) : Nat := if a % 2 = 0 then a + 1 else a - 1
theorem sidx_even {a : Nat} (h : a % 2 = 0) : sidx a = a + 1 := if_pos h
theorem sidx_odd {a : Nat} (h : ¬ a % 2 = 0) : sidx a = a - 1 := if_neg h
def sib (l : List (List Nat)) (a : Nat) : List (List Nat) := if sidx a < l.length then [l.getD (sidx a) []] else []
def pathI (l : List (List Nat)) (a : Nat) : List (List Nat) := if h : l.length ≤ 1 then [] else sib l a ++ pathI (upL l) (a / 2)
termination_by l.length
decreasing_by rw [upL_length]; omega
theorem pathI_one {l : List (List Nat)} (h : l.length ≤ 1) (a : Nat) : pathI l a = [] := by rw [pathI, dif_pos h]
theorem pathI_up {l : List (List Nat)} (h : ¬ l.length ≤ 1) (a : Nat) : pathI l a = sib l a ++ pathI (upL l) (a / 2) := by rw [pathI, dif_neg h]
def recP (l : List (List Nat)) (a : Nat) : List (List Nat) :=
  if h : l.length ≤ 1 then [] else if a < halfI l.length then recP (l.take (halfI l.length)) a ++ [rec_ (l.drop (halfI l.length))] else recP (l.drop (halfI l.length)) (a - halfI l.length) ++ [rec_ (l.take (halfI l.length))]
termination_by l.length
decreasing_by
  · have := half_lt (n := l.length) (by omega); rw [List.length_take]; omega
  · have := half_lt (n := l.length) (by omega); rw [List.length_drop]; omega
theorem recP_one {l : List (List Nat)} (h : l.length ≤ 1) (a : Nat) : recP l a = [] := by rw [recP, dif_pos h]
theorem recP_two {l : List (List Nat)} (h : ¬ l.length ≤ 1) (a : Nat) : recP l a = if a < halfI l.length then recP (l.take (halfI l.length)) a ++ [rec_ (l.drop (halfI l.length))] else recP (l.drop (halfI l.length)) (a - halfI l.length) ++ [rec_ (l.take (halfI l.length))] := by rw [recP, dif_neg h]
theorem half2 : halfI 2 = 1 := by
  have := half_lt (n := 2) (by omega)
  omega
theorem recP_up : ∀ (m : Nat) (l : List (List Nat)) (a : Nat), l.length = m → ¬ l.length ≤ 1 → a < l.length → recP l a = sib l a ++ recP (upL l) (a / 2) := by
  intro m
  induction m using Nat.strongRecOn with
  | _ m ih =>
    intro l a hm h1 ha
    by_cases h2 : l.length = 2
    · match l, h2 with
      | [x, y], _ =>
        rw [recP_two (l := [x, y]) (by simp), recP_one (l := upL [x, y]) (by simp [upL])]
        show (if a < halfI 2 then recP ([x, y].take (halfI 2)) a ++ [rec_ ([x, y].drop (halfI 2))] else recP ([x, y].drop (halfI 2)) (a - halfI 2) ++ [rec_ ([x, y].take (halfI 2))]) = _
        rw [half2]
        have ha' : a < 2 := ha
        rcases (by omega : a = 0 ∨ a = 1) with rfl | rfl
        · rw [if_pos (by decide), recP_one (by simp), rec_one (by simp)]
          simp [sib, sidx]
        · rw [if_neg (by decide), recP_one (by simp), rec_one (by simp)]
          simp [sib, sidx]
    · obtain ⟨e1, e2⟩ := up_split (l := l) (by omega)
      obtain ⟨h4, h5, h6⟩ := half_half (n := l.length) (by omega)
      have hlt := half_lt (n := l.length) (by omega)
      have hlu := upL_length l
      have hu : ¬ (upL l).length ≤ 1 := by rw [hlu]; omega
      have hhu : halfI (upL l).length = halfI l.length / 2 := by rw [hlu]; exact h5
      have htl : (l.take (halfI l.length)).length = halfI l.length := by rw [List.length_take]; omega
      have hdl : (l.drop (halfI l.length)).length = l.length - halfI l.length := List.length_drop
      have et : (upL l).take (halfI (upL l).length) = upL (l.take (halfI l.length)) := by
        rw [← e2]; conv => lhs; rw [e1]
        rw [List.take_left]
      have ed : (upL l).drop (halfI (upL l).length) = upL (l.drop (halfI l.length)) := by
        rw [← e2]; conv => lhs; rw [e1]
        rw [List.drop_left]
      rw [recP_two h1, recP_two hu, et, ed, rec_up, rec_up]
      by_cases hc : a < halfI l.length
      · have q1 : a / 2 < halfI (upL l).length := by rw [hhu]; omega
        have q2 : (l.take (halfI l.length)).length < m := by rw [htl]; omega
        have q3 : ¬ (l.take (halfI l.length)).length ≤ 1 := by rw [htl]; omega
        rw [if_pos hc, if_pos q1, ih _ q2 (l.take (halfI l.length)) a rfl q3 (by rw [htl]; exact hc), List.append_assoc]
        congr 1
        have hs : sidx a < halfI l.length := by
          by_cases hz : a % 2 = 0
          · rw [sidx_even hz]; omega
          · rw [sidx_odd hz]; omega
        unfold sib
        rw [if_pos (by rw [htl]; exact hs), if_pos (by omega), List.getD_eq_getElem?_getD, List.getD_eq_getElem?_getD, List.getElem?_take, if_pos hs]
      · have q1 : ¬ a / 2 < halfI (upL l).length := by rw [hhu]; omega
        rw [if_neg hc, if_neg q1]
        have hax : (a / 2 - halfI (upL l).length) = (a - halfI l.length) / 2 := by rw [hhu]; omega
        rw [hax, ← List.append_assoc]
        have hs : sib (l.drop (halfI l.length)) (a - halfI l.length) = sib l a := by
          unfold sib
          rw [hdl]
          by_cases hz : a % 2 = 0
          · rw [sidx_even hz, sidx_even (show (a - halfI l.length) % 2 = 0 by omega)]
            by_cases hb : a + 1 < l.length
            · rw [if_pos hb, if_pos (by omega), List.getD_eq_getElem?_getD, List.getD_eq_getElem?_getD, List.getElem?_drop, show halfI l.length + (a - halfI l.length + 1) = a + 1 by omega]
            · rw [if_neg hb, if_neg (by omega)]
          · rw [sidx_odd hz, sidx_odd (show ¬ (a - halfI l.length) % 2 = 0 by omega), if_pos (by omega), if_pos (by omega), List.getD_eq_getElem?_getD, List.getD_eq_getElem?_getD, List.getElem?_drop, show halfI l.length + (a - halfI l.length - 1) = a - 1 by omega]
        by_cases hd : (l.drop (halfI l.length)).length ≤ 1
        · have ha2 : a = halfI l.length ∧ l.length = halfI l.length + 1 := by omega
          have h0 : sib l a = [] := by
            unfold sib
            rw [sidx_even (by omega), if_neg (by omega)]
          rw [h0, upL_one hd, show (a - halfI l.length) / 2 = a - halfI l.length by omega, List.nil_append]
        · have q2 : (l.drop (halfI l.length)).length < m := by rw [hdl]; omega
          rw [ih _ q2 (l.drop (halfI l.length)) (a - halfI l.length) rfl hd (by omega), hs]
theorem pathI_rec : ∀ (m : Nat) (l : List (List Nat)) (a : Nat), l.length = m → a < l.length → pathI l a = recP l a := by
  intro m
  induction m using Nat.strongRecOn with
  | _ m ih =>
    intro l a hm ha
    by_cases h1 : l.length ≤ 1
    · rw [pathI_one h1, recP_one h1]
    · have hl := upL_length l
      rw [pathI_up h1, recP_up m l a hm h1 ha, ih _ (by omega) (upL l) (a / 2) rfl (by omega)]
end Go.Proofs.Ytdhfiamgmokfbaa

/- Closed facts on the seat's types and functions, by program. It proves no statement by itself. -/
namespace Go.Proofs.Ytdhfiamgmokfbaa
open Go E
theorem sz2 : Sz Try.prog 2 1 := sz_of (by kernel_rfl)
theorem zv2 : Zv Try.prog 2 (.int .i64 0) := zv_of (by kernel_rfl)
theorem el2 : El Try.prog 2 1 8 := el_of (by kernel_rfl) (by decide)
theorem ag2 : Ag Try.prog 2 false := ag_of false Try.underlying2 rfl
theorem sz3 : Sz Try.prog 3 1 := sz_of (by kernel_rfl)
theorem zv3 : Zv Try.prog 3 (.int .i64 0) := zv_of (by kernel_rfl)
theorem el3 : El Try.prog 3 1 8 := el_of (by kernel_rfl) (by decide)
theorem ag3 : Ag Try.prog 3 false := ag_of false Try.underlying3 rfl
theorem sz4 : Sz Try.prog 4 1 := sz_of (by kernel_rfl)
theorem zv4 : Zv Try.prog 4 (.bool false) := zv_of (by kernel_rfl)
theorem el4 : El Try.prog 4 1 1 := el_of (by kernel_rfl) (by decide)
theorem ag4 : Ag Try.prog 4 false := ag_of false Try.underlying4 rfl
theorem sz5 : Sz Try.prog 5 1 := sz_of (by kernel_rfl)
theorem zv5 : Zv Try.prog 5 (.int .u8 0) := zv_of (by kernel_rfl)
theorem el5 : El Try.prog 5 1 1 := el_of (by kernel_rfl) (by decide)
theorem ag5 : Ag Try.prog 5 false := ag_of false Try.underlying5 rfl
theorem sz9 : Sz Try.prog 9 1 := sz_of (by kernel_rfl)
theorem zv9 : Zv Try.prog 9 (.string ⟨#[]⟩) := zv_of (by kernel_rfl)
theorem el9 : El Try.prog 9 1 16 := el_of (by kernel_rfl) (by decide)
theorem ag9 : Ag Try.prog 9 false := ag_of false Try.underlying9 rfl
theorem sz12 : Sz Try.prog 12 1 := sz_of (by kernel_rfl)
theorem zv12 : Zv Try.prog 12 (.int .u64 0) := zv_of (by kernel_rfl)
theorem el12 : El Try.prog 12 1 8 := el_of (by kernel_rfl) (by decide)
theorem ag12 : Ag Try.prog 12 false := ag_of false Try.underlying12 rfl
theorem sz21 : Sz Try.prog 21 1 := sz_of (by kernel_rfl)
theorem zv21 : Zv Try.prog 21 (.int .i32 0) := zv_of (by kernel_rfl)
theorem el21 : El Try.prog 21 1 4 := el_of (by kernel_rfl) (by decide)
theorem ag21 : Ag Try.prog 21 false := ag_of false Try.underlying21 rfl
theorem sz22 : Sz Try.prog 22 1 := sz_of (by kernel_rfl)
theorem zv22 : Zv Try.prog 22 (.slice none 0 0) := zv_of (by kernel_rfl)
theorem el22 : El Try.prog 22 1 24 := el_of (by kernel_rfl) (by decide)
theorem ag22 : Ag Try.prog 22 false := ag_of false Try.underlying22 rfl
theorem sz23 : Sz Try.prog 23 1 := sz_of (by kernel_rfl)
theorem zv23 : Zv Try.prog 23 (.pointer none) := zv_of (by kernel_rfl)
theorem el23 : El Try.prog 23 1 8 := el_of (by kernel_rfl) (by decide)
theorem ag23 : Ag Try.prog 23 false := ag_of false Try.underlying23 rfl
theorem sz24 : Sz Try.prog 24 1 := sz_of (by kernel_rfl)
theorem zv24 : Zv Try.prog 24 (.slice none 0 0) := zv_of (by kernel_rfl)
theorem el24 : El Try.prog 24 1 24 := el_of (by kernel_rfl) (by decide)
theorem ag24 : Ag Try.prog 24 false := ag_of false Try.underlying24 rfl
theorem sz33 : Sz Try.prog 33 1 := sz_of (by kernel_rfl)
theorem zv33 : Zv Try.prog 33 (.slice none 0 0) := zv_of (by kernel_rfl)
theorem el33 : El Try.prog 33 1 24 := el_of (by kernel_rfl) (by decide)
theorem ag33 : Ag Try.prog 33 false := ag_of false Try.underlying33 rfl
theorem sz34 : Sz Try.prog 34 1 := sz_of (by kernel_rfl)
theorem zv34 : Zv Try.prog 34 (.int .i64 0) := zv_of (by kernel_rfl)
theorem el34 : El Try.prog 34 1 8 := el_of (by kernel_rfl) (by decide)
theorem ag34 : Ag Try.prog 34 false := ag_of false Try.underlying34 rfl
theorem sz67 : Sz Try.prog 67 1 := sz_of (by kernel_rfl)
theorem zv67 : Zv Try.prog 67 (.slice none 0 0) := zv_of (by kernel_rfl)
theorem el67 : El Try.prog 67 1 24 := el_of (by kernel_rfl) (by decide)
theorem ag67 : Ag Try.prog 67 false := ag_of false Try.underlying67 rfl
theorem sz81 : Sz Try.prog 81 1 := sz_of (by kernel_rfl)
theorem zv81 : Zv Try.prog 81 (.slice none 0 0) := zv_of (by kernel_rfl)
theorem el81 : El Try.prog 81 1 24 := el_of (by kernel_rfl) (by decide)
theorem ag81 : Ag Try.prog 81 false := ag_of false Try.underlying81 rfl
theorem sz82 : Sz Try.prog 82 1 := sz_of (by kernel_rfl)
theorem zv82 : Zv Try.prog 82 (.slice none 0 0) := zv_of (by kernel_rfl)
theorem el82 : El Try.prog 82 1 24 := el_of (by kernel_rfl) (by decide)
theorem ag82 : Ag Try.prog 82 false := ag_of false Try.underlying82 rfl
theorem sz85 : Sz Try.prog 85 1 := sz_of (by kernel_rfl)
theorem zv85 : Zv Try.prog 85 (.slice none 0 0) := zv_of (by kernel_rfl)
theorem el85 : El Try.prog 85 1 24 := el_of (by kernel_rfl) (by decide)
theorem ag85 : Ag Try.prog 85 false := ag_of false Try.underlying85 rfl
theorem sz90 : Sz Try.prog 90 1 := sz_of (by kernel_rfl)
theorem zv90 : Zv Try.prog 90 (.slice none 0 0) := zv_of (by kernel_rfl)
theorem el90 : El Try.prog 90 1 24 := el_of (by kernel_rfl) (by decide)
theorem ag90 : Ag Try.prog 90 false := ag_of false Try.underlying90 rfl
theorem sz91 : Sz Try.prog 91 1 := sz_of (by kernel_rfl)
theorem zv91 : Zv Try.prog 91 (.pointer none) := zv_of (by kernel_rfl)
theorem el91 : El Try.prog 91 1 8 := el_of (by kernel_rfl) (by decide)
theorem ag91 : Ag Try.prog 91 false := ag_of false Try.underlying91 rfl
theorem sz99 : Sz Try.prog 99 1 := sz_of (by kernel_rfl)
theorem zv99 : Zv Try.prog 99 (.pointer none) := zv_of (by kernel_rfl)
theorem el99 : El Try.prog 99 1 8 := el_of (by kernel_rfl) (by decide)
theorem ag99 : Ag Try.prog 99 false := ag_of false Try.underlying99 rfl
theorem sz109 : Sz Try.prog 109 1 := sz_of (by kernel_rfl)
theorem zv109 : Zv Try.prog 109 (.slice none 0 0) := zv_of (by kernel_rfl)
theorem el109 : El Try.prog 109 1 24 := el_of (by kernel_rfl) (by decide)
theorem ag109 : Ag Try.prog 109 false := ag_of false Try.underlying109 rfl
theorem sz120 : Sz Try.prog 120 1 := sz_of (by kernel_rfl)
theorem zv120 : Zv Try.prog 120 (.int .u64 0) := zv_of (by kernel_rfl)
theorem el120 : El Try.prog 120 1 8 := el_of (by kernel_rfl) (by decide)
theorem ag120 : Ag Try.prog 120 false := ag_of false Try.underlying120 rfl
theorem sz128 : Sz Try.prog 128 1 := sz_of (by kernel_rfl)
theorem zv128 : Zv Try.prog 128 (.slice none 0 0) := zv_of (by kernel_rfl)
theorem el128 : El Try.prog 128 1 24 := el_of (by kernel_rfl) (by decide)
theorem ag128 : Ag Try.prog 128 false := ag_of false Try.underlying128 rfl
theorem sz133 : Sz Try.prog 133 1 := sz_of (by kernel_rfl)
theorem zv133 : Zv Try.prog 133 (.int .u32 0) := zv_of (by kernel_rfl)
theorem el133 : El Try.prog 133 1 4 := el_of (by kernel_rfl) (by decide)
theorem ag133 : Ag Try.prog 133 false := ag_of false Try.underlying133 rfl
theorem sz140 : Sz Try.prog 140 1 := sz_of (by kernel_rfl)
theorem zv140 : Zv Try.prog 140 (.pointer none) := zv_of (by kernel_rfl)
theorem el140 : El Try.prog 140 1 8 := el_of (by kernel_rfl) (by decide)
theorem ag140 : Ag Try.prog 140 false := ag_of false Try.underlying140 rfl
theorem sz145 : Sz Try.prog 145 1 := sz_of (by kernel_rfl)
theorem zv145 : Zv Try.prog 145 (.slice none 0 0) := zv_of (by kernel_rfl)
theorem el145 : El Try.prog 145 1 24 := el_of (by kernel_rfl) (by decide)
theorem ag145 : Ag Try.prog 145 false := ag_of false Try.underlying145 rfl
theorem sz150 : Sz Try.prog 150 1 := sz_of (by kernel_rfl)
theorem zv150 : Zv Try.prog 150 (.int .u64 0) := zv_of (by kernel_rfl)
theorem el150 : El Try.prog 150 1 8 := el_of (by kernel_rfl) (by decide)
theorem ag150 : Ag Try.prog 150 false := ag_of false Try.underlying150 rfl
theorem sz152 : Sz Try.prog 152 1 := sz_of (by kernel_rfl)
theorem zv152 : Zv Try.prog 152 (.pointer none) := zv_of (by kernel_rfl)
theorem el152 : El Try.prog 152 1 8 := el_of (by kernel_rfl) (by decide)
theorem ag152 : Ag Try.prog 152 false := ag_of false Try.underlying152 rfl
theorem sz159 : Sz Try.prog 159 1 := sz_of (by kernel_rfl)
theorem zv159 : Zv Try.prog 159 (.pointer none) := zv_of (by kernel_rfl)
theorem el159 : El Try.prog 159 1 8 := el_of (by kernel_rfl) (by decide)
theorem ag159 : Ag Try.prog 159 false := ag_of false Try.underlying159 rfl
theorem sz162 : Sz Try.prog 162 1 := sz_of (by kernel_rfl)
theorem zv162 : Zv Try.prog 162 (.slice none 0 0) := zv_of (by kernel_rfl)
theorem el162 : El Try.prog 162 1 24 := el_of (by kernel_rfl) (by decide)
theorem ag162 : Ag Try.prog 162 false := ag_of false Try.underlying162 rfl
theorem sz175 : Sz Try.prog 175 1 := sz_of (by kernel_rfl)
theorem zv175 : Zv Try.prog 175 (.pointer none) := zv_of (by kernel_rfl)
theorem el175 : El Try.prog 175 1 8 := el_of (by kernel_rfl) (by decide)
theorem ag175 : Ag Try.prog 175 false := ag_of false Try.underlying175 rfl
theorem sz13 : Sz Try.prog 13 2 := sz_of (by kernel_rfl)
def zl13 : List Value := [.string ⟨#[]⟩] ++ [.int .u64 0]
theorem zv13 : Zv Try.prog 13 (.agg zl13.toArray) := zv_of (by kernel_rfl)
theorem el13 : El Try.prog 13 2 24 := el_of (by kernel_rfl) (by decide)
theorem gd13 : Try.prog.eqGuardType Try.prog.depth 13 = false := by kernel_rfl
theorem ag13 : Ag Try.prog 13 true := ag_of true Try.underlying13 rfl
theorem sz25 : Sz Try.prog 25 1 := sz_of (by kernel_rfl)
def zl25 : List Value := [.slice none 0 0]
theorem zv25 : Zv Try.prog 25 (.agg zl25.toArray) := zv_of (by kernel_rfl)
theorem el25 : El Try.prog 25 1 24 := el_of (by kernel_rfl) (by decide)
theorem ag25 : Ag Try.prog 25 true := ag_of true Try.underlying25 rfl
theorem sz26 : Sz Try.prog 26 1 := sz_of (by kernel_rfl)
def zl26 : List Value := [.slice none 0 0]
theorem zv26 : Zv Try.prog 26 (.agg zl26.toArray) := zv_of (by kernel_rfl)
theorem el26 : El Try.prog 26 1 24 := el_of (by kernel_rfl) (by decide)
theorem ag26 : Ag Try.prog 26 true := ag_of true Try.underlying26 rfl
theorem sz28 : Sz Try.prog 28 32 := sz_of (by kernel_rfl)
def zl28 : List Value := List.replicate 32 (.int .u8 0)
theorem zv28 : Zv Try.prog 28 (.agg zl28.toArray) := zv_of (by kernel_rfl)
theorem el28 : El Try.prog 28 32 32 := el_of (by kernel_rfl) (by decide)
theorem gd28 : Try.prog.eqGuardType Try.prog.depth 28 = false := by kernel_rfl
theorem eq28 : EqT Try.prog 2 28 (IntT .u8 32) := EqT.ints Try.underlying28 Try.underlying5 ag5 sz5
theorem ag28 : Ag Try.prog 28 true := ag_of true Try.underlying28 rfl
theorem sz29 : Sz Try.prog 29 32 := sz_of (by kernel_rfl)
def zl29 : List Value := List.replicate 32 (.int .u8 0)
theorem zv29 : Zv Try.prog 29 (.agg zl29.toArray) := zv_of (by kernel_rfl)
theorem el29 : El Try.prog 29 32 32 := el_of (by kernel_rfl) (by decide)
theorem gd29 : Try.prog.eqGuardType Try.prog.depth 29 = false := by kernel_rfl
theorem eq29 : EqT Try.prog 2 29 (IntT .u8 32) := EqT.ints Try.underlying29 Try.underlying5 ag5 sz5
theorem ag29 : Ag Try.prog 29 true := ag_of true Try.underlying29 rfl
theorem sz30 : Sz Try.prog 30 65 := sz_of (by kernel_rfl)
def zl30 : List Value := List.replicate 64 (.int .u8 0) ++ [.bool false]
theorem zv30 : Zv Try.prog 30 (.agg zl30.toArray) := zv_of (by kernel_rfl)
theorem el30 : El Try.prog 30 65 65 := el_of (by kernel_rfl) (by decide)
theorem gd30 : Try.prog.eqGuardType Try.prog.depth 30 = false := by kernel_rfl
theorem ag30 : Ag Try.prog 30 true := ag_of true Try.underlying30 rfl
theorem sz31 : Sz Try.prog 31 65 := sz_of (by kernel_rfl)
def zl31 : List Value := List.replicate 64 (.int .u8 0) ++ [.bool false]
theorem zv31 : Zv Try.prog 31 (.agg zl31.toArray) := zv_of (by kernel_rfl)
theorem el31 : El Try.prog 31 65 65 := el_of (by kernel_rfl) (by decide)
theorem gd31 : Try.prog.eqGuardType Try.prog.depth 31 = false := by kernel_rfl
theorem ag31 : Ag Try.prog 31 true := ag_of true Try.underlying31 rfl
theorem sz65 : Sz Try.prog 65 66 := sz_of (by kernel_rfl)
def zl65 : List Value := List.replicate 32 (.int .u8 0) ++ [.int .i64 0] ++ List.replicate 32 (.int .u8 0) ++ [.int .i64 0]
theorem zv65 : Zv Try.prog 65 (.agg zl65.toArray) := zv_of (by kernel_rfl)
theorem el65 : El Try.prog 65 66 80 := el_of (by kernel_rfl) (by decide)
theorem gd65 : Try.prog.eqGuardType Try.prog.depth 65 = false := by kernel_rfl
theorem ag65 : Ag Try.prog 65 true := ag_of true Try.underlying65 rfl
theorem sz66 : Sz Try.prog 66 66 := sz_of (by kernel_rfl)
def zl66 : List Value := List.replicate 32 (.int .u8 0) ++ [.int .i64 0] ++ List.replicate 32 (.int .u8 0) ++ [.int .i64 0]
theorem zv66 : Zv Try.prog 66 (.agg zl66.toArray) := zv_of (by kernel_rfl)
theorem el66 : El Try.prog 66 66 80 := el_of (by kernel_rfl) (by decide)
theorem gd66 : Try.prog.eqGuardType Try.prog.depth 66 = false := by kernel_rfl
theorem ag66 : Ag Try.prog 66 true := ag_of true Try.underlying66 rfl
theorem sz68 : Sz Try.prog 68 67 := sz_of (by kernel_rfl)
def zl68 : List Value := List.replicate 32 (.int .u8 0) ++ [.int .i64 0] ++ List.replicate 32 (.int .u8 0) ++ [.int .i64 0] ++ [.slice none 0 0]
theorem zv68 : Zv Try.prog 68 (.agg zl68.toArray) := zv_of (by kernel_rfl)
theorem el68 : El Try.prog 68 67 104 := el_of (by kernel_rfl) (by decide)
theorem ag68 : Ag Try.prog 68 true := ag_of true Try.underlying68 rfl
theorem sz69 : Sz Try.prog 69 67 := sz_of (by kernel_rfl)
def zl69 : List Value := List.replicate 32 (.int .u8 0) ++ [.int .i64 0] ++ List.replicate 32 (.int .u8 0) ++ [.int .i64 0] ++ [.slice none 0 0]
theorem zv69 : Zv Try.prog 69 (.agg zl69.toArray) := zv_of (by kernel_rfl)
theorem el69 : El Try.prog 69 67 104 := el_of (by kernel_rfl) (by decide)
theorem ag69 : Ag Try.prog 69 true := ag_of true Try.underlying69 rfl
theorem sz83 : Sz Try.prog 83 37 := sz_of (by kernel_rfl)
def zl83 : List Value := List.replicate 4 (.int .i64 0) ++ List.replicate 32 (.int .u8 0) ++ [.slice none 0 0]
theorem zv83 : Zv Try.prog 83 (.agg zl83.toArray) := zv_of (by kernel_rfl)
theorem el83 : El Try.prog 83 37 88 := el_of (by kernel_rfl) (by decide)
theorem ag83 : Ag Try.prog 83 true := ag_of true Try.underlying83 rfl
theorem sz84 : Sz Try.prog 84 37 := sz_of (by kernel_rfl)
def zl84 : List Value := List.replicate 4 (.int .i64 0) ++ List.replicate 32 (.int .u8 0) ++ [.slice none 0 0]
theorem zv84 : Zv Try.prog 84 (.agg zl84.toArray) := zv_of (by kernel_rfl)
theorem el84 : El Try.prog 84 37 88 := el_of (by kernel_rfl) (by decide)
theorem ag84 : Ag Try.prog 84 true := ag_of true Try.underlying84 rfl
theorem sz86 : Sz Try.prog 86 40 := sz_of (by kernel_rfl)
def zl86 : List Value := [.slice none 0 0, .slice none 0 0] ++ List.replicate 4 (.int .i64 0) ++ List.replicate 32 (.int .u8 0) ++ [.slice none 0 0, .slice none 0 0]
theorem zv86 : Zv Try.prog 86 (.agg zl86.toArray) := zv_of (by kernel_rfl)
theorem el86 : El Try.prog 86 40 160 := el_of (by kernel_rfl) (by decide)
theorem ag86 : Ag Try.prog 86 true := ag_of true Try.underlying86 rfl
theorem sz87 : Sz Try.prog 87 40 := sz_of (by kernel_rfl)
def zl87 : List Value := [.slice none 0 0, .slice none 0 0] ++ List.replicate 4 (.int .i64 0) ++ List.replicate 32 (.int .u8 0) ++ [.slice none 0 0, .slice none 0 0]
theorem zv87 : Zv Try.prog 87 (.agg zl87.toArray) := zv_of (by kernel_rfl)
theorem el87 : El Try.prog 87 40 160 := el_of (by kernel_rfl) (by decide)
theorem ag87 : Ag Try.prog 87 true := ag_of true Try.underlying87 rfl
theorem sz97 : Sz Try.prog 97 1 := sz_of (by kernel_rfl)
def zl97 : List Value := [.slice none 0 0]
theorem zv97 : Zv Try.prog 97 (.agg zl97.toArray) := zv_of (by kernel_rfl)
theorem el97 : El Try.prog 97 1 24 := el_of (by kernel_rfl) (by decide)
theorem ag97 : Ag Try.prog 97 true := ag_of true Try.underlying97 rfl
theorem sz98 : Sz Try.prog 98 1 := sz_of (by kernel_rfl)
def zl98 : List Value := [.slice none 0 0]
theorem zv98 : Zv Try.prog 98 (.agg zl98.toArray) := zv_of (by kernel_rfl)
theorem el98 : El Try.prog 98 1 24 := el_of (by kernel_rfl) (by decide)
theorem ag98 : Ag Try.prog 98 true := ag_of true Try.underlying98 rfl
theorem sz110 : Sz Try.prog 110 67 := sz_of (by kernel_rfl)
def zl110 : List Value := [.int .i64 0, .int .i64 0, .int .i64 0] ++ List.replicate 64 (.int .u8 0)
theorem zv110 : Zv Try.prog 110 (.agg zl110.toArray) := zv_of (by kernel_rfl)
theorem el110 : El Try.prog 110 67 88 := el_of (by kernel_rfl) (by decide)
theorem gd110 : Try.prog.eqGuardType Try.prog.depth 110 = false := by kernel_rfl
theorem ag110 : Ag Try.prog 110 true := ag_of true Try.underlying110 rfl
theorem sz111 : Sz Try.prog 111 67 := sz_of (by kernel_rfl)
def zl111 : List Value := [.int .i64 0, .int .i64 0, .int .i64 0] ++ List.replicate 64 (.int .u8 0)
theorem zv111 : Zv Try.prog 111 (.agg zl111.toArray) := zv_of (by kernel_rfl)
theorem el111 : El Try.prog 111 67 88 := el_of (by kernel_rfl) (by decide)
theorem gd111 : Try.prog.eqGuardType Try.prog.depth 111 = false := by kernel_rfl
theorem ag111 : Ag Try.prog 111 true := ag_of true Try.underlying111 rfl
theorem sz114 : Sz Try.prog 114 68 := sz_of (by kernel_rfl)
def zl114 : List Value := [.int .i64 0, .int .i64 0, .int .i64 0] ++ List.replicate 64 (.int .u8 0) ++ [.slice none 0 0]
theorem zv114 : Zv Try.prog 114 (.agg zl114.toArray) := zv_of (by kernel_rfl)
theorem el114 : El Try.prog 114 68 112 := el_of (by kernel_rfl) (by decide)
theorem ag114 : Ag Try.prog 114 true := ag_of true Try.underlying114 rfl
theorem sz115 : Sz Try.prog 115 68 := sz_of (by kernel_rfl)
def zl115 : List Value := [.int .i64 0, .int .i64 0, .int .i64 0] ++ List.replicate 64 (.int .u8 0) ++ [.slice none 0 0]
theorem zv115 : Zv Try.prog 115 (.agg zl115.toArray) := zv_of (by kernel_rfl)
theorem el115 : El Try.prog 115 68 112 := el_of (by kernel_rfl) (by decide)
theorem ag115 : Ag Try.prog 115 true := ag_of true Try.underlying115 rfl
theorem sz126 : Sz Try.prog 126 34 := sz_of (by kernel_rfl)
def zl126 : List Value := List.replicate 32 (.int .u8 0) ++ [.slice none 0 0] ++ [.int .i64 0]
theorem zv126 : Zv Try.prog 126 (.agg zl126.toArray) := zv_of (by kernel_rfl)
theorem el126 : El Try.prog 126 34 64 := el_of (by kernel_rfl) (by decide)
theorem ag126 : Ag Try.prog 126 true := ag_of true Try.underlying126 rfl
theorem sz127 : Sz Try.prog 127 34 := sz_of (by kernel_rfl)
def zl127 : List Value := List.replicate 32 (.int .u8 0) ++ [.slice none 0 0] ++ [.int .i64 0]
theorem zv127 : Zv Try.prog 127 (.agg zl127.toArray) := zv_of (by kernel_rfl)
theorem el127 : El Try.prog 127 34 64 := el_of (by kernel_rfl) (by decide)
theorem ag127 : Ag Try.prog 127 true := ag_of true Try.underlying127 rfl
theorem sz134 : Sz Try.prog 134 8 := sz_of (by kernel_rfl)
def zl134 : List Value := List.replicate 8 (.int .u32 0)
theorem zv134 : Zv Try.prog 134 (.agg zl134.toArray) := zv_of (by kernel_rfl)
theorem el134 : El Try.prog 134 8 32 := el_of (by kernel_rfl) (by decide)
theorem gd134 : Try.prog.eqGuardType Try.prog.depth 134 = false := by kernel_rfl
theorem eq134 : EqT Try.prog 2 134 (IntT .u32 8) := EqT.ints Try.underlying134 Try.underlying133 ag133 sz133
theorem ag134 : Ag Try.prog 134 true := ag_of true Try.underlying134 rfl
theorem sz135 : Sz Try.prog 135 8 := sz_of (by kernel_rfl)
def zl135 : List Value := List.replicate 8 (.int .u32 0)
theorem zv135 : Zv Try.prog 135 (.agg zl135.toArray) := zv_of (by kernel_rfl)
theorem el135 : El Try.prog 135 8 32 := el_of (by kernel_rfl) (by decide)
theorem gd135 : Try.prog.eqGuardType Try.prog.depth 135 = false := by kernel_rfl
theorem eq135 : EqT Try.prog 2 135 (IntT .u32 8) := EqT.ints Try.underlying135 Try.underlying133 ag133 sz133
theorem ag135 : Ag Try.prog 135 true := ag_of true Try.underlying135 rfl
theorem sz137 : Sz Try.prog 137 64 := sz_of (by kernel_rfl)
def zl137 : List Value := List.replicate 64 (.int .u32 0)
theorem zv137 : Zv Try.prog 137 (.agg zl137.toArray) := zv_of (by kernel_rfl)
theorem el137 : El Try.prog 137 64 256 := el_of (by kernel_rfl) (by decide)
theorem gd137 : Try.prog.eqGuardType Try.prog.depth 137 = false := by kernel_rfl
theorem eq137 : EqT Try.prog 2 137 (IntT .u32 64) := EqT.ints Try.underlying137 Try.underlying133 ag133 sz133
theorem ag137 : Ag Try.prog 137 true := ag_of true Try.underlying137 rfl
theorem sz141 : Sz Try.prog 141 33 := sz_of (by kernel_rfl)
def zl141 : List Value := List.replicate 32 (.int .u8 0) ++ [.int .i64 0]
theorem zv141 : Zv Try.prog 141 (.agg zl141.toArray) := zv_of (by kernel_rfl)
theorem el141 : El Try.prog 141 33 40 := el_of (by kernel_rfl) (by decide)
theorem gd141 : Try.prog.eqGuardType Try.prog.depth 141 = false := by kernel_rfl
theorem ag141 : Ag Try.prog 141 true := ag_of true Try.underlying141 rfl
theorem sz142 : Sz Try.prog 142 33 := sz_of (by kernel_rfl)
def zl142 : List Value := List.replicate 32 (.int .u8 0) ++ [.int .i64 0]
theorem zv142 : Zv Try.prog 142 (.agg zl142.toArray) := zv_of (by kernel_rfl)
theorem el142 : El Try.prog 142 33 40 := el_of (by kernel_rfl) (by decide)
theorem gd142 : Try.prog.eqGuardType Try.prog.depth 142 = false := by kernel_rfl
theorem ag142 : Ag Try.prog 142 true := ag_of true Try.underlying142 rfl
theorem sz143 : Sz Try.prog 143 35 := sz_of (by kernel_rfl)
def zl143 : List Value := List.replicate 32 (.int .u8 0) ++ [.int .i64 0, .int .i64 0] ++ [.slice none 0 0]
theorem zv143 : Zv Try.prog 143 (.agg zl143.toArray) := zv_of (by kernel_rfl)
theorem el143 : El Try.prog 143 35 72 := el_of (by kernel_rfl) (by decide)
theorem ag143 : Ag Try.prog 143 true := ag_of true Try.underlying143 rfl
theorem sz144 : Sz Try.prog 144 35 := sz_of (by kernel_rfl)
def zl144 : List Value := List.replicate 32 (.int .u8 0) ++ [.int .i64 0, .int .i64 0] ++ [.slice none 0 0]
theorem zv144 : Zv Try.prog 144 (.agg zl144.toArray) := zv_of (by kernel_rfl)
theorem el144 : El Try.prog 144 35 72 := el_of (by kernel_rfl) (by decide)
theorem ag144 : Ag Try.prog 144 true := ag_of true Try.underlying144 rfl
theorem sz146 : Sz Try.prog 146 2 := sz_of (by kernel_rfl)
def zl146 : List Value := [.int .i64 0] ++ [.slice none 0 0]
theorem zv146 : Zv Try.prog 146 (.agg zl146.toArray) := zv_of (by kernel_rfl)
theorem el146 : El Try.prog 146 2 32 := el_of (by kernel_rfl) (by decide)
theorem ag146 : Ag Try.prog 146 true := ag_of true Try.underlying146 rfl
theorem sz147 : Sz Try.prog 147 2 := sz_of (by kernel_rfl)
def zl147 : List Value := [.int .i64 0] ++ [.slice none 0 0]
theorem zv147 : Zv Try.prog 147 (.agg zl147.toArray) := zv_of (by kernel_rfl)
theorem el147 : El Try.prog 147 2 32 := el_of (by kernel_rfl) (by decide)
theorem ag147 : Ag Try.prog 147 true := ag_of true Try.underlying147 rfl
theorem sz148 : Sz Try.prog 148 35 := sz_of (by kernel_rfl)
def zl148 : List Value := [.slice none 0 0] ++ List.replicate 32 (.int .u8 0) ++ [.int .i64 0, .int .i64 0]
theorem zv148 : Zv Try.prog 148 (.agg zl148.toArray) := zv_of (by kernel_rfl)
theorem el148 : El Try.prog 148 35 72 := el_of (by kernel_rfl) (by decide)
theorem ag148 : Ag Try.prog 148 true := ag_of true Try.underlying148 rfl
theorem sz149 : Sz Try.prog 149 35 := sz_of (by kernel_rfl)
def zl149 : List Value := [.slice none 0 0] ++ List.replicate 32 (.int .u8 0) ++ [.int .i64 0, .int .i64 0]
theorem zv149 : Zv Try.prog 149 (.agg zl149.toArray) := zv_of (by kernel_rfl)
theorem el149 : El Try.prog 149 35 72 := el_of (by kernel_rfl) (by decide)
theorem ag149 : Ag Try.prog 149 true := ag_of true Try.underlying149 rfl
theorem sz163 : Sz Try.prog 163 2 := sz_of (by kernel_rfl)
def zl163 : List Value := [.slice none 0 0] ++ [.int .i64 0]
theorem zv163 : Zv Try.prog 163 (.agg zl163.toArray) := zv_of (by kernel_rfl)
theorem el163 : El Try.prog 163 2 32 := el_of (by kernel_rfl) (by decide)
theorem ag163 : Ag Try.prog 163 true := ag_of true Try.underlying163 rfl
theorem sz164 : Sz Try.prog 164 2 := sz_of (by kernel_rfl)
def zl164 : List Value := [.slice none 0 0] ++ [.int .i64 0]
theorem zv164 : Zv Try.prog 164 (.agg zl164.toArray) := zv_of (by kernel_rfl)
theorem el164 : El Try.prog 164 2 32 := el_of (by kernel_rfl) (by decide)
theorem ag164 : Ag Try.prog 164 true := ag_of true Try.underlying164 rfl
theorem sz180 : Sz Try.prog 180 33 := sz_of (by kernel_rfl)
def zl180 : List Value := [.int .i64 0] ++ List.replicate 32 (.int .u8 0)
theorem zv180 : Zv Try.prog 180 (.agg zl180.toArray) := zv_of (by kernel_rfl)
theorem el180 : El Try.prog 180 33 40 := el_of (by kernel_rfl) (by decide)
theorem gd180 : Try.prog.eqGuardType Try.prog.depth 180 = false := by kernel_rfl
theorem ag180 : Ag Try.prog 180 true := ag_of true Try.underlying180 rfl
theorem sz181 : Sz Try.prog 181 33 := sz_of (by kernel_rfl)
def zl181 : List Value := [.int .i64 0] ++ List.replicate 32 (.int .u8 0)
theorem zv181 : Zv Try.prog 181 (.agg zl181.toArray) := zv_of (by kernel_rfl)
theorem el181 : El Try.prog 181 33 40 := el_of (by kernel_rfl) (by decide)
theorem gd181 : Try.prog.eqGuardType Try.prog.depth 181 = false := by kernel_rfl
theorem ag181 : Ag Try.prog 181 true := ag_of true Try.underlying181 rfl
theorem nm3 : (Try.f3.name == "runtime.NumGoroutine") = false := by kernel_rfl
theorem nm4 : (Try.f4.name == "runtime.NumGoroutine") = false := by kernel_rfl
theorem nm5 : (Try.f5.name == "runtime.NumGoroutine") = false := by kernel_rfl
theorem nm6 : (Try.f6.name == "runtime.NumGoroutine") = false := by kernel_rfl
theorem nm7 : (Try.f7.name == "runtime.NumGoroutine") = false := by kernel_rfl
theorem nm8 : (Try.f8.name == "runtime.NumGoroutine") = false := by kernel_rfl
theorem nm9 : (Try.f9.name == "runtime.NumGoroutine") = false := by kernel_rfl
theorem nm10 : (Try.f10.name == "runtime.NumGoroutine") = false := by kernel_rfl
theorem nm11 : (Try.f11.name == "runtime.NumGoroutine") = false := by kernel_rfl
theorem nm12 : (Try.f12.name == "runtime.NumGoroutine") = false := by kernel_rfl
theorem nm13 : (Try.f13.name == "runtime.NumGoroutine") = false := by kernel_rfl
theorem nm14 : (Try.f14.name == "runtime.NumGoroutine") = false := by kernel_rfl
theorem nm15 : (Try.f15.name == "runtime.NumGoroutine") = false := by kernel_rfl
theorem nm16 : (Try.f16.name == "runtime.NumGoroutine") = false := by kernel_rfl
theorem nm17 : (Try.f17.name == "runtime.NumGoroutine") = false := by kernel_rfl
theorem nm18 : (Try.f18.name == "runtime.NumGoroutine") = false := by kernel_rfl
theorem nm19 : (Try.f19.name == "runtime.NumGoroutine") = false := by kernel_rfl
theorem nm20 : (Try.f20.name == "runtime.NumGoroutine") = false := by kernel_rfl
theorem nm21 : (Try.f21.name == "runtime.NumGoroutine") = false := by kernel_rfl
theorem nm22 : (Try.f22.name == "runtime.NumGoroutine") = false := by kernel_rfl
theorem nm23 : (Try.f23.name == "runtime.NumGoroutine") = false := by kernel_rfl
theorem nm24 : (Try.f24.name == "runtime.NumGoroutine") = false := by kernel_rfl
theorem nm25 : (Try.f25.name == "runtime.NumGoroutine") = false := by kernel_rfl
theorem nm26 : (Try.f26.name == "runtime.NumGoroutine") = false := by kernel_rfl
theorem nm27 : (Try.f27.name == "runtime.NumGoroutine") = false := by kernel_rfl
theorem nm28 : (Try.f28.name == "runtime.NumGoroutine") = false := by kernel_rfl
theorem nm29 : (Try.f29.name == "runtime.NumGoroutine") = false := by kernel_rfl
theorem nm30 : (Try.f30.name == "runtime.NumGoroutine") = false := by kernel_rfl
theorem nm31 : (Try.f31.name == "runtime.NumGoroutine") = false := by kernel_rfl
theorem nm32 : (Try.f32.name == "runtime.NumGoroutine") = false := by kernel_rfl
theorem nm33 : (Try.f33.name == "runtime.NumGoroutine") = false := by kernel_rfl
theorem nm34 : (Try.f34.name == "runtime.NumGoroutine") = false := by kernel_rfl
theorem nm35 : (Try.f35.name == "runtime.NumGoroutine") = false := by kernel_rfl
theorem nm36 : (Try.f36.name == "runtime.NumGoroutine") = false := by kernel_rfl
theorem nm37 : (Try.f37.name == "runtime.NumGoroutine") = false := by kernel_rfl
theorem nm38 : (Try.f38.name == "runtime.NumGoroutine") = false := by kernel_rfl
theorem nm39 : (Try.f39.name == "runtime.NumGoroutine") = false := by kernel_rfl
theorem nm40 : (Try.f40.name == "runtime.NumGoroutine") = false := by kernel_rfl
theorem nm41 : (Try.f41.name == "runtime.NumGoroutine") = false := by kernel_rfl
theorem nm42 : (Try.f42.name == "runtime.NumGoroutine") = false := by kernel_rfl
theorem nm43 : (Try.f43.name == "runtime.NumGoroutine") = false := by kernel_rfl
theorem nm44 : (Try.f44.name == "runtime.NumGoroutine") = false := by kernel_rfl
theorem nm45 : (Try.f45.name == "runtime.NumGoroutine") = false := by kernel_rfl
theorem nm46 : (Try.f46.name == "runtime.NumGoroutine") = false := by kernel_rfl
theorem nm47 : (Try.f47.name == "runtime.NumGoroutine") = false := by kernel_rfl
theorem nm48 : (Try.f48.name == "runtime.NumGoroutine") = false := by kernel_rfl
theorem nm49 : (Try.f49.name == "runtime.NumGoroutine") = false := by kernel_rfl
theorem nm50 : (Try.f50.name == "runtime.NumGoroutine") = false := by kernel_rfl
theorem nm51 : (Try.f51.name == "runtime.NumGoroutine") = false := by kernel_rfl
theorem nm52 : (Try.f52.name == "runtime.NumGoroutine") = false := by kernel_rfl
theorem nm53 : (Try.f53.name == "runtime.NumGoroutine") = false := by kernel_rfl
theorem nm54 : (Try.f54.name == "runtime.NumGoroutine") = false := by kernel_rfl
theorem nm55 : (Try.f55.name == "runtime.NumGoroutine") = false := by kernel_rfl
theorem nm56 : (Try.f56.name == "runtime.NumGoroutine") = false := by kernel_rfl
theorem nm57 : (Try.f57.name == "runtime.NumGoroutine") = false := by kernel_rfl
theorem nm58 : (Try.f58.name == "runtime.NumGoroutine") = false := by kernel_rfl
theorem nm59 : (Try.f59.name == "runtime.NumGoroutine") = false := by kernel_rfl
theorem nm60 : (Try.f60.name == "runtime.NumGoroutine") = false := by kernel_rfl
theorem nm61 : (Try.f61.name == "runtime.NumGoroutine") = false := by kernel_rfl
theorem nm62 : (Try.f62.name == "runtime.NumGoroutine") = false := by kernel_rfl
theorem nm63 : (Try.f63.name == "runtime.NumGoroutine") = false := by kernel_rfl
theorem nm64 : (Try.f64.name == "runtime.NumGoroutine") = false := by kernel_rfl
theorem nm65 : (Try.f65.name == "runtime.NumGoroutine") = false := by kernel_rfl
theorem nm66 : (Try.f66.name == "runtime.NumGoroutine") = false := by kernel_rfl
theorem nm67 : (Try.f67.name == "runtime.NumGoroutine") = false := by kernel_rfl
theorem nm68 : (Try.f68.name == "runtime.NumGoroutine") = false := by kernel_rfl
theorem nm69 : (Try.f69.name == "runtime.NumGoroutine") = false := by kernel_rfl
theorem nm70 : (Try.f70.name == "runtime.NumGoroutine") = false := by kernel_rfl
theorem nm71 : (Try.f71.name == "runtime.NumGoroutine") = false := by kernel_rfl
theorem nm72 : (Try.f72.name == "runtime.NumGoroutine") = false := by kernel_rfl
theorem nm73 : (Try.f73.name == "runtime.NumGoroutine") = false := by kernel_rfl
theorem nm74 : (Try.f74.name == "runtime.NumGoroutine") = false := by kernel_rfl
theorem nm75 : (Try.f75.name == "runtime.NumGoroutine") = false := by kernel_rfl
theorem nm76 : (Try.f76.name == "runtime.NumGoroutine") = false := by kernel_rfl
theorem nm77 : (Try.f77.name == "runtime.NumGoroutine") = false := by kernel_rfl
theorem nm78 : (Try.f78.name == "runtime.NumGoroutine") = false := by kernel_rfl
theorem nm79 : (Try.f79.name == "runtime.NumGoroutine") = false := by kernel_rfl
theorem nm80 : (Try.f80.name == "runtime.NumGoroutine") = false := by kernel_rfl
theorem nm81 : (Try.f81.name == "runtime.NumGoroutine") = false := by kernel_rfl
theorem nm82 : (Try.f82.name == "runtime.NumGoroutine") = false := by kernel_rfl
theorem nm83 : (Try.f83.name == "runtime.NumGoroutine") = false := by kernel_rfl
theorem nm84 : (Try.f84.name == "runtime.NumGoroutine") = false := by kernel_rfl
theorem nm85 : (Try.f85.name == "runtime.NumGoroutine") = false := by kernel_rfl
theorem nm86 : (Try.f86.name == "runtime.NumGoroutine") = false := by kernel_rfl
theorem nm87 : (Try.f87.name == "runtime.NumGoroutine") = false := by kernel_rfl
theorem nm88 : (Try.f88.name == "runtime.NumGoroutine") = false := by kernel_rfl
theorem nm89 : (Try.f89.name == "runtime.NumGoroutine") = false := by kernel_rfl
theorem nm90 : (Try.f90.name == "runtime.NumGoroutine") = false := by kernel_rfl
theorem nm91 : (Try.f91.name == "runtime.NumGoroutine") = false := by kernel_rfl
theorem nm92 : (Try.f92.name == "runtime.NumGoroutine") = false := by kernel_rfl
theorem nm93 : (Try.f93.name == "runtime.NumGoroutine") = false := by kernel_rfl
theorem nm94 : (Try.f94.name == "runtime.NumGoroutine") = false := by kernel_rfl
theorem nm95 : (Try.f95.name == "runtime.NumGoroutine") = false := by kernel_rfl
theorem nm96 : (Try.f96.name == "runtime.NumGoroutine") = false := by kernel_rfl
theorem nm97 : (Try.f97.name == "runtime.NumGoroutine") = false := by kernel_rfl
theorem nm98 : (Try.f98.name == "runtime.NumGoroutine") = false := by kernel_rfl
theorem nm99 : (Try.f99.name == "runtime.NumGoroutine") = false := by kernel_rfl
theorem nm100 : (Try.f100.name == "runtime.NumGoroutine") = false := by kernel_rfl
theorem nm101 : (Try.f101.name == "runtime.NumGoroutine") = false := by kernel_rfl
theorem nm102 : (Try.f102.name == "runtime.NumGoroutine") = false := by kernel_rfl
theorem nm103 : (Try.f103.name == "runtime.NumGoroutine") = false := by kernel_rfl
theorem nm104 : (Try.f104.name == "runtime.NumGoroutine") = false := by kernel_rfl
theorem nm105 : (Try.f105.name == "runtime.NumGoroutine") = false := by kernel_rfl
theorem nm106 : (Try.f106.name == "runtime.NumGoroutine") = false := by kernel_rfl
theorem nm107 : (Try.f107.name == "runtime.NumGoroutine") = false := by kernel_rfl
theorem nm108 : (Try.f108.name == "runtime.NumGoroutine") = false := by kernel_rfl
theorem nm109 : (Try.f109.name == "runtime.NumGoroutine") = false := by kernel_rfl
theorem nm110 : (Try.f110.name == "runtime.NumGoroutine") = false := by kernel_rfl
theorem nm111 : (Try.f111.name == "runtime.NumGoroutine") = false := by kernel_rfl
theorem nm112 : (Try.f112.name == "runtime.NumGoroutine") = false := by kernel_rfl
theorem nm113 : (Try.f113.name == "runtime.NumGoroutine") = false := by kernel_rfl
theorem nm114 : (Try.f114.name == "runtime.NumGoroutine") = false := by kernel_rfl
theorem mixed : Try.prog.follows .mixedOrders = true := by kernel_rfl
end Go.Proofs.Ytdhfiamgmokfbaa

/- Closed facts on the seat's structs, by program: the parts of their zero values, their places. It proves no statement by itself. -/
namespace Go.Proofs.Ytdhfiamgmokfbaa
open Go E
def zc13 : List (List Value) := [[.string ⟨#[]⟩], [.int .u64 0]]
theorem zs13 : Zv Try.prog 13 (.agg (cat zc13).toArray) := zv_of (by kernel_rfl)
theorem bt13 : Bt Try.prog 13 zc13 [(0, 1), (1, 1)] := bt_of (by kernel_rfl) Try.underlying13 (by kernel_rfl)
def zc25 : List (List Value) := [[.slice none 0 0]]
theorem zs25 : Zv Try.prog 25 (.agg (cat zc25).toArray) := zv_of (by kernel_rfl)
theorem bt25 : Bt Try.prog 25 zc25 [(0, 1)] := bt_of (by kernel_rfl) Try.underlying25 (by kernel_rfl)
def zc26 : List (List Value) := [[.slice none 0 0]]
theorem zs26 : Zv Try.prog 26 (.agg (cat zc26).toArray) := zv_of (by kernel_rfl)
theorem bt26 : Bt Try.prog 26 zc26 [(0, 1)] := bt_of (by kernel_rfl) Try.underlying26 (by kernel_rfl)
def zc30 : List (List Value) := [List.replicate 32 (.int .u8 0), List.replicate 32 (.int .u8 0), [.bool false]]
theorem zs30 : Zv Try.prog 30 (.agg (cat zc30).toArray) := zv_of (by kernel_rfl)
theorem bt30 : Bt Try.prog 30 zc30 [(0, 32), (32, 32), (64, 1)] := bt_of (by kernel_rfl) Try.underlying30 (by kernel_rfl)
def zc31 : List (List Value) := [List.replicate 32 (.int .u8 0), List.replicate 32 (.int .u8 0), [.bool false]]
theorem zs31 : Zv Try.prog 31 (.agg (cat zc31).toArray) := zv_of (by kernel_rfl)
theorem bt31 : Bt Try.prog 31 zc31 [(0, 32), (32, 32), (64, 1)] := bt_of (by kernel_rfl) Try.underlying31 (by kernel_rfl)
def zc65 : List (List Value) := [List.replicate 32 (.int .u8 0), [.int .i64 0], List.replicate 32 (.int .u8 0), [.int .i64 0]]
theorem zs65 : Zv Try.prog 65 (.agg (cat zc65).toArray) := zv_of (by kernel_rfl)
theorem bt65 : Bt Try.prog 65 zc65 [(0, 32), (32, 1), (33, 32), (65, 1)] := bt_of (by kernel_rfl) Try.underlying65 (by kernel_rfl)
def zc66 : List (List Value) := [List.replicate 32 (.int .u8 0), [.int .i64 0], List.replicate 32 (.int .u8 0), [.int .i64 0]]
theorem zs66 : Zv Try.prog 66 (.agg (cat zc66).toArray) := zv_of (by kernel_rfl)
theorem bt66 : Bt Try.prog 66 zc66 [(0, 32), (32, 1), (33, 32), (65, 1)] := bt_of (by kernel_rfl) Try.underlying66 (by kernel_rfl)
def zc68 : List (List Value) := [List.replicate 32 (.int .u8 0), [.int .i64 0], List.replicate 32 (.int .u8 0), [.int .i64 0], [.slice none 0 0]]
theorem zs68 : Zv Try.prog 68 (.agg (cat zc68).toArray) := zv_of (by kernel_rfl)
theorem bt68 : Bt Try.prog 68 zc68 [(0, 66), (66, 1)] := bt_of (by kernel_rfl) Try.underlying68 (by kernel_rfl)
def zc69 : List (List Value) := [List.replicate 32 (.int .u8 0), [.int .i64 0], List.replicate 32 (.int .u8 0), [.int .i64 0], [.slice none 0 0]]
theorem zs69 : Zv Try.prog 69 (.agg (cat zc69).toArray) := zv_of (by kernel_rfl)
theorem bt69 : Bt Try.prog 69 zc69 [(0, 66), (66, 1)] := bt_of (by kernel_rfl) Try.underlying69 (by kernel_rfl)
def zc83 : List (List Value) := [[.int .i64 0], [.int .i64 0], [.int .i64 0], [.int .i64 0], List.replicate 32 (.int .u8 0), [.slice none 0 0]]
theorem zs83 : Zv Try.prog 83 (.agg (cat zc83).toArray) := zv_of (by kernel_rfl)
theorem bt83 : Bt Try.prog 83 zc83 [(0, 1), (1, 1), (2, 1), (3, 1), (4, 32), (36, 1)] := bt_of (by kernel_rfl) Try.underlying83 (by kernel_rfl)
def zc84 : List (List Value) := [[.int .i64 0], [.int .i64 0], [.int .i64 0], [.int .i64 0], List.replicate 32 (.int .u8 0), [.slice none 0 0]]
theorem zs84 : Zv Try.prog 84 (.agg (cat zc84).toArray) := zv_of (by kernel_rfl)
theorem bt84 : Bt Try.prog 84 zc84 [(0, 1), (1, 1), (2, 1), (3, 1), (4, 32), (36, 1)] := bt_of (by kernel_rfl) Try.underlying84 (by kernel_rfl)
def zc86 : List (List Value) := [[.slice none 0 0], [.slice none 0 0], [.int .i64 0], [.int .i64 0], [.int .i64 0], [.int .i64 0], List.replicate 32 (.int .u8 0), [.slice none 0 0], [.slice none 0 0]]
theorem zs86 : Zv Try.prog 86 (.agg (cat zc86).toArray) := zv_of (by kernel_rfl)
theorem bt86 : Bt Try.prog 86 zc86 [(0, 1), (1, 1), (2, 37), (39, 1)] := bt_of (by kernel_rfl) Try.underlying86 (by kernel_rfl)
def zc87 : List (List Value) := [[.slice none 0 0], [.slice none 0 0], [.int .i64 0], [.int .i64 0], [.int .i64 0], [.int .i64 0], List.replicate 32 (.int .u8 0), [.slice none 0 0], [.slice none 0 0]]
theorem zs87 : Zv Try.prog 87 (.agg (cat zc87).toArray) := zv_of (by kernel_rfl)
theorem bt87 : Bt Try.prog 87 zc87 [(0, 1), (1, 1), (2, 37), (39, 1)] := bt_of (by kernel_rfl) Try.underlying87 (by kernel_rfl)
def zc97 : List (List Value) := [[.slice none 0 0]]
theorem zs97 : Zv Try.prog 97 (.agg (cat zc97).toArray) := zv_of (by kernel_rfl)
theorem bt97 : Bt Try.prog 97 zc97 [(0, 1)] := bt_of (by kernel_rfl) Try.underlying97 (by kernel_rfl)
def zc98 : List (List Value) := [[.slice none 0 0]]
theorem zs98 : Zv Try.prog 98 (.agg (cat zc98).toArray) := zv_of (by kernel_rfl)
theorem bt98 : Bt Try.prog 98 zc98 [(0, 1)] := bt_of (by kernel_rfl) Try.underlying98 (by kernel_rfl)
def zc110 : List (List Value) := [[.int .i64 0], [.int .i64 0], [.int .i64 0], List.replicate 32 (.int .u8 0), List.replicate 32 (.int .u8 0)]
theorem zs110 : Zv Try.prog 110 (.agg (cat zc110).toArray) := zv_of (by kernel_rfl)
theorem bt110 : Bt Try.prog 110 zc110 [(0, 1), (1, 1), (2, 1), (3, 32), (35, 32)] := bt_of (by kernel_rfl) Try.underlying110 (by kernel_rfl)
def zc111 : List (List Value) := [[.int .i64 0], [.int .i64 0], [.int .i64 0], List.replicate 32 (.int .u8 0), List.replicate 32 (.int .u8 0)]
theorem zs111 : Zv Try.prog 111 (.agg (cat zc111).toArray) := zv_of (by kernel_rfl)
theorem bt111 : Bt Try.prog 111 zc111 [(0, 1), (1, 1), (2, 1), (3, 32), (35, 32)] := bt_of (by kernel_rfl) Try.underlying111 (by kernel_rfl)
def zc114 : List (List Value) := [[.int .i64 0], [.int .i64 0], [.int .i64 0], List.replicate 32 (.int .u8 0), List.replicate 32 (.int .u8 0), [.slice none 0 0]]
theorem zs114 : Zv Try.prog 114 (.agg (cat zc114).toArray) := zv_of (by kernel_rfl)
theorem bt114 : Bt Try.prog 114 zc114 [(0, 67), (67, 1)] := bt_of (by kernel_rfl) Try.underlying114 (by kernel_rfl)
def zc115 : List (List Value) := [[.int .i64 0], [.int .i64 0], [.int .i64 0], List.replicate 32 (.int .u8 0), List.replicate 32 (.int .u8 0), [.slice none 0 0]]
theorem zs115 : Zv Try.prog 115 (.agg (cat zc115).toArray) := zv_of (by kernel_rfl)
theorem bt115 : Bt Try.prog 115 zc115 [(0, 67), (67, 1)] := bt_of (by kernel_rfl) Try.underlying115 (by kernel_rfl)
def zc126 : List (List Value) := [List.replicate 32 (.int .u8 0), [.slice none 0 0], [.int .i64 0]]
theorem zs126 : Zv Try.prog 126 (.agg (cat zc126).toArray) := zv_of (by kernel_rfl)
theorem bt126 : Bt Try.prog 126 zc126 [(0, 32), (32, 1), (33, 1)] := bt_of (by kernel_rfl) Try.underlying126 (by kernel_rfl)
def zc127 : List (List Value) := [List.replicate 32 (.int .u8 0), [.slice none 0 0], [.int .i64 0]]
theorem zs127 : Zv Try.prog 127 (.agg (cat zc127).toArray) := zv_of (by kernel_rfl)
theorem bt127 : Bt Try.prog 127 zc127 [(0, 32), (32, 1), (33, 1)] := bt_of (by kernel_rfl) Try.underlying127 (by kernel_rfl)
def zc141 : List (List Value) := [List.replicate 32 (.int .u8 0), [.int .i64 0]]
theorem zs141 : Zv Try.prog 141 (.agg (cat zc141).toArray) := zv_of (by kernel_rfl)
theorem bt141 : Bt Try.prog 141 zc141 [(0, 32), (32, 1)] := bt_of (by kernel_rfl) Try.underlying141 (by kernel_rfl)
def zc142 : List (List Value) := [List.replicate 32 (.int .u8 0), [.int .i64 0]]
theorem zs142 : Zv Try.prog 142 (.agg (cat zc142).toArray) := zv_of (by kernel_rfl)
theorem bt142 : Bt Try.prog 142 zc142 [(0, 32), (32, 1)] := bt_of (by kernel_rfl) Try.underlying142 (by kernel_rfl)
def zc143 : List (List Value) := [List.replicate 32 (.int .u8 0), [.int .i64 0], [.int .i64 0], [.slice none 0 0]]
theorem zs143 : Zv Try.prog 143 (.agg (cat zc143).toArray) := zv_of (by kernel_rfl)
theorem bt143 : Bt Try.prog 143 zc143 [(0, 33), (33, 1), (34, 1)] := bt_of (by kernel_rfl) Try.underlying143 (by kernel_rfl)
def zc144 : List (List Value) := [List.replicate 32 (.int .u8 0), [.int .i64 0], [.int .i64 0], [.slice none 0 0]]
theorem zs144 : Zv Try.prog 144 (.agg (cat zc144).toArray) := zv_of (by kernel_rfl)
theorem bt144 : Bt Try.prog 144 zc144 [(0, 33), (33, 1), (34, 1)] := bt_of (by kernel_rfl) Try.underlying144 (by kernel_rfl)
def zc146 : List (List Value) := [[.int .i64 0], [.slice none 0 0]]
theorem zs146 : Zv Try.prog 146 (.agg (cat zc146).toArray) := zv_of (by kernel_rfl)
theorem bt146 : Bt Try.prog 146 zc146 [(0, 1), (1, 1)] := bt_of (by kernel_rfl) Try.underlying146 (by kernel_rfl)
def zc147 : List (List Value) := [[.int .i64 0], [.slice none 0 0]]
theorem zs147 : Zv Try.prog 147 (.agg (cat zc147).toArray) := zv_of (by kernel_rfl)
theorem bt147 : Bt Try.prog 147 zc147 [(0, 1), (1, 1)] := bt_of (by kernel_rfl) Try.underlying147 (by kernel_rfl)
def zc148 : List (List Value) := [[.slice none 0 0], List.replicate 32 (.int .u8 0), [.int .i64 0], [.int .i64 0]]
theorem zs148 : Zv Try.prog 148 (.agg (cat zc148).toArray) := zv_of (by kernel_rfl)
theorem bt148 : Bt Try.prog 148 zc148 [(0, 1), (1, 32), (33, 1), (34, 1)] := bt_of (by kernel_rfl) Try.underlying148 (by kernel_rfl)
def zc149 : List (List Value) := [[.slice none 0 0], List.replicate 32 (.int .u8 0), [.int .i64 0], [.int .i64 0]]
theorem zs149 : Zv Try.prog 149 (.agg (cat zc149).toArray) := zv_of (by kernel_rfl)
theorem bt149 : Bt Try.prog 149 zc149 [(0, 1), (1, 32), (33, 1), (34, 1)] := bt_of (by kernel_rfl) Try.underlying149 (by kernel_rfl)
def zc163 : List (List Value) := [[.slice none 0 0], [.int .i64 0]]
theorem zs163 : Zv Try.prog 163 (.agg (cat zc163).toArray) := zv_of (by kernel_rfl)
theorem bt163 : Bt Try.prog 163 zc163 [(0, 1), (1, 1)] := bt_of (by kernel_rfl) Try.underlying163 (by kernel_rfl)
def zc164 : List (List Value) := [[.slice none 0 0], [.int .i64 0]]
theorem zs164 : Zv Try.prog 164 (.agg (cat zc164).toArray) := zv_of (by kernel_rfl)
theorem bt164 : Bt Try.prog 164 zc164 [(0, 1), (1, 1)] := bt_of (by kernel_rfl) Try.underlying164 (by kernel_rfl)
def zc180 : List (List Value) := [[.int .i64 0], List.replicate 32 (.int .u8 0)]
theorem zs180 : Zv Try.prog 180 (.agg (cat zc180).toArray) := zv_of (by kernel_rfl)
theorem bt180 : Bt Try.prog 180 zc180 [(0, 1), (1, 32)] := bt_of (by kernel_rfl) Try.underlying180 (by kernel_rfl)
def zc181 : List (List Value) := [[.int .i64 0], List.replicate 32 (.int .u8 0)]
theorem zs181 : Zv Try.prog 181 (.agg (cat zc181).toArray) := zv_of (by kernel_rfl)
theorem bt181 : Bt Try.prog 181 zc181 [(0, 1), (1, 32)] := bt_of (by kernel_rfl) Try.underlying181 (by kernel_rfl)
theorem zvS : Zv Try.prog 29 (.agg (bv zsum).toArray) := zv_of (by kernel_rfl)
end Go.Proofs.Ytdhfiamgmokfbaa

/- SHA-256's small parts: rotations. It proves no statement by itself. -/
set_option linter.unusedSimpArgs false
set_option linter.unusedVariables false
namespace Go.Proofs.Ytdhfiamgmokfbaa
open Go Go.RowKit E

theorem rot_any (x s : Nat) (k : Int) (w : World) (h1 : bits .and .u64 (IntKind.u64.wrap k) 31 = (s : Int)) (h2 : 1 ≤ s ∧ s ≤ 31) :
    Ret Try.prog 110 [.int .u32 (x : Int), .int .i64 k] w fun v w' => v = .int .u32 (rotr (32 - s) x : Int) ∧ w' = w := by
  refine enter Try.func110 rfl Try.ntmps110 (Nat.le_of_ble_eq_true rfl) ?_
  refine s_seq (s_plain ?_)
  refine p_val (e_assign rfl) rfl ?_
  refine p_nil (x_then ?_)
  refine s_seq (s_plain ?_)
  refine p_val (e_move (v := .int .i64 k) rfl) rfl ?_
  refine p_val (e_conv (k := .i64) (a := k) rfl Try.underlying3 (by simp) Try.underlying120) rfl ?_
  refine p_val (e_int .and (v := .int .u64 (s : Int)) rfl rfl (fun w => congrArg (fun z => Result.ok (Value.int .u64 z) w) h1)) rfl ?_
  refine p_val (e_assign (v := .int .u64 (s : Int)) rfl) rfl ?_
  refine p_nil (x_then ?_)
  refine s_seq (s_plain ?_)
  refine p_val (e_move (v := .int .u32 (x : Int)) rfl) rfl ?_
  refine p_val (e_move (v := .int .u64 (s : Int)) rfl) rfl ?_
  refine p_val (e_shl32 s (m := x) rfl rfl (by omega)) rfl ?_
  refine p_val (e_move (v := .int .u32 (x : Int)) rfl) rfl ?_
  refine p_val (e_move (v := .int .u64 (s : Int)) rfl) rfl ?_
  refine p_val (e_int .sub (v := .int .u64 ((32 - s : Nat) : Int)) rfl rfl (fun w => ?_)) rfl ?_
  · have : IntKind.u64.wrap (32 - (s : Int)) = ((32 - s : Nat) : Int) := by
      rw [IntWalk.u64_in _ (by omega)]
      omega
    simp [binOp, Op.intArith, this]
  refine p_val (e_shr32 (32 - s) (m := x) rfl rfl (by omega)) rfl ?_
  refine p_val (e_or32 (m := shl32 x s) (n := shr32 x (32 - s)) rfl rfl) rfl ?_
  refine p_val (e_assign (v := .int .u32 (or32 (shl32 x s) (shr32 x (32 - s)) : Int)) rfl) rfl ?_
  refine p_nil (x_then ?_)
  refine s_ret (post1 Try.results110 (v := .int .u32 (rotr (32 - s) x : Int)) ?_ ⟨rfl, rfl⟩)
  have : 32 - (32 - s) = s := by omega
  unfold rotr
  rw [this]
  rfl
end Go.Proofs.Ytdhfiamgmokfbaa

/- SHA-256's spread: a block's 64 words. It proves no statement by itself. -/
set_option linter.unusedSimpArgs false
set_option linter.unusedVariables false
namespace Go.Proofs.Ytdhfiamgmokfbaa
open Go Go.RowKit E
theorem wrap32_byte (x : Nat) : IntKind.u32.wrap (x : Int) = ((x % 4294967296 : Nat) : Int) := wrap32_nat x
theorem spread_step1 {w0 w : World} {b1 b2 : Nat} {b : List Nat} {i t : Nat} {p : Option Obj → Prop}
    (S : St w0 w [] [some b2, some b1] ([Ex (wv (sp1 b i)).toArray t, p].set 0 (Ex ((wv (sp1 b i)).toArray.setIfInBounds ((i : Int).toNat * 1) (.int .u32 ((or32 (or32 (or32 (shl32 (b.getD (4 * (i : Int)).toNat 0 % 4294967296) 24) (shl32 (b.getD (4 * (i : Int) + 1).toNat 0 % 4294967296) 16)) (shl32 (b.getD (4 * (i : Int) + 2).toNat 0 % 4294967296) 8)) (b.getD (4 * (i : Int) + 3).toNat 0 % 4294967296) : Nat) : Int))) t))) :
    St w0 w [] [some b2, some b1] [Ex (wv (sp1 b (i + 1))).toArray t, p] := by
  rw [wv_set, show ((i : Int).toNat * 1) = i by simp, show (4 * (i : Int)).toNat = 4 * i by omega, show (4 * (i : Int) + 1).toNat = 4 * i + 1 by omega, show (4 * (i : Int) + 2).toNat = 4 * i + 2 by omega, show (4 * (i : Int) + 3).toNat = 4 * i + 3 by omega] at S
  exact S
theorem spread_step2 {w0 w : World} {b1 b2 : Nat} {b : List Nat} {k t : Nat} {p : Option Obj → Prop}
    (S : St w0 w [] [some b2, some b1] ([Ex (wv (sp2 b k)).toArray t, p].set 0 (Ex ((wv (sp2 b k)).toArray.setIfInBounds (((16 + k : Nat) : Int).toNat * 1) (.int .u32 ((add32 (add32 (add32 ((sp2 b k).getD ((((16 + k : Nat) : Int) - 16).toNat * 1) 0) (xor32 (xor32 (rotr 7 ((sp2 b k).getD ((((16 + k : Nat) : Int) - 15).toNat * 1) 0)) (rotr 18 ((sp2 b k).getD ((((16 + k : Nat) : Int) - 15).toNat * 1) 0))) (shr32 ((sp2 b k).getD ((((16 + k : Nat) : Int) - 15).toNat * 1) 0) 3))) ((sp2 b k).getD ((((16 + k : Nat) : Int) - 7).toNat * 1) 0)) (xor32 (xor32 (rotr 17 ((sp2 b k).getD ((((16 + k : Nat) : Int) - 2).toNat * 1) 0)) (rotr 19 ((sp2 b k).getD ((((16 + k : Nat) : Int) - 2).toNat * 1) 0))) (shr32 ((sp2 b k).getD ((((16 + k : Nat) : Int) - 2).toNat * 1) 0) 10)) : Nat) : Int))) t))) :
    St w0 w [] [some b2, some b1] [Ex (wv (sp2 b (k + 1))).toArray t, p] := by
  rw [wv_set, show (((16 + k : Nat) : Int).toNat * 1) = 16 + k by omega, show ((((16 + k : Nat) : Int) - 16).toNat * 1) = 16 + k - 16 by omega, show ((((16 + k : Nat) : Int) - 15).toNat * 1) = 16 + k - 15 by omega, show ((((16 + k : Nat) : Int) - 7).toNat * 1) = 16 + k - 7 by omega, show ((((16 + k : Nat) : Int) - 2).toNat * 1) = 16 + k - 2 by omega] at S
  exact S
set_option maxRecDepth 100000 in
theorem spread_calls (w0 : World) (ad : Addr) (c : Nat) (b : List Nat) (R : Rd w0 1 (some ad) 64 (bv b)) :
    Ret Try.prog 109 [.slice (some ad) 64 c] w0 fun v w' => v = .agg (wv (spread b)).toArray ∧ Below w0.heap.size w0 w' := by
  have hb : b.length = 64 := by simpa using R.1
  refine enter Try.func109 rfl Try.ntmps109 (Nat.le_of_ble_eq_true rfl) ?_
  have S := St.init w0
  refine s_seq (s_plain ?_)
  refine p_does (d_allocA S zv137) rfl ?_
  rintro _ w ⟨b1, rfl, S⟩
  refine p_nil (x_then (s_seq (s_plain ?_)))
  refine p_does (d_allocA S zv137) rfl ?_
  rintro _ w ⟨b2, rfl, S⟩
  refine p_nil (x_then (s_seq (s_seq (s_plain ?_))))
  refine p_val (e_move (v := .int _ _) rfl) rfl ?_
  refine p_nil (x_then (s_block ?_))
  refine s_loop (α := Nat) (fun g f' w' => ∃ u, f' = upds u [(0, .slice (some ad) 64 c), (2, .pointer (some ⟨b1, 0, none⟩)), (3, .pointer (some ⟨b2, 0, none⟩)), (10, .int .i64 (g : Int))] ∧ g ≤ 16 ∧ St w0 w' [] [some b2, some b1] [Ex (wv (sp1 b g)).toArray 137, Ex zl137.toArray 137]) (fun g => 16 - g) (0) (⟨_, upds_eq ⟨rfl, rfl, rfl, rfl, trivial⟩, by omega, S⟩) ?_
  rintro i f w ⟨u, rfl, hi, S⟩
  refine s_seq (s_plain ?_)
  refine p_val (e_lss rfl rfl) rfl ?_
  refine p_nil (x_then (s_seq ?_))
  refine s_cond rfl (fun hc => ?_) (fun hc => ?_)
  · refine s_skip (x_then (s_seq (s_block (s_seq (s_plain ?_)))))
    refine p_val (e_move (v := .int _ _) rfl) rfl ?_
    refine p_val (e_assign (v := .int _ _) rfl) rfl ?_
    refine p_nil (x_then ?_)
    refine s_draw [(true, 0), (true, 1), (true, 2), (true, 3), (true, 4), (true, 5), (true, 6), (true, 7), (true, 8), (true, 9), (true, 10), (true, 11), (true, 12), (true, 13), (true, 14), (true, 15), (true, 16), (true, 17), (true, 18), (true, 19), (true, 20), (true, 21), (true, 22), (true, 23), (true, 24), (true, 25), (true, 26), (true, 27), (true, 28), (true, 29), (true, 30), (true, 31), (true, 32), (true, 33), (true, 34), (false, 35)] (fun w' => St w0 w' [] [] []) mixed (by kernel_rfl) (by repeat (first | exact Calm.post _ _ _ | refine Calm.then ?_ _ | refine Calm.inB ?_ _)) ?_
    have S := S.drew
    have hS := S.tail.tail
    refine q_val (fun w hS => e_move (v := .int _ _) rfl) rfl hS ?_
    refine q_val (fun w hS => e_move (v := .slice _ _ _) rfl) rfl hS ?_
    refine q_val (fun w hS => e_move (v := .int _ _) rfl) rfl hS ?_
    refine q_val (fun w hS => e_mul64 rfl rfl (by omega)) rfl hS ?_
    refine q_val (fun w hS => e_ix_sl rfl rfl Try.underlying33 sz5 (by omega)) rfl hS ?_
    refine q_val (fun w hS => e_load rfl ag5 (hS.rdOld R rfl |>.byte (by omega))) rfl hS ?_
    refine q_val (fun w hS => e_conv_in rfl Try.underlying5 (by simp) Try.underlying133 (wrap32_byte _)) rfl hS ?_
    refine q_val (fun w hS => e_shl32 24 rfl rfl (by decide)) rfl hS ?_
    refine q_val (fun w hS => e_move (v := .slice _ _ _) rfl) rfl hS ?_
    refine q_val (fun w hS => e_move (v := .int _ _) rfl) rfl hS ?_
    refine q_val (fun w hS => e_mul64 rfl rfl (by omega)) rfl hS ?_
    refine q_val (fun w hS => e_add64 rfl rfl (by omega)) rfl hS ?_
    refine q_val (fun w hS => e_ix_sl rfl rfl Try.underlying33 sz5 (by omega)) rfl hS ?_
    refine q_val (fun w hS => e_load rfl ag5 (hS.rdOld R rfl |>.byte (by omega))) rfl hS ?_
    refine q_val (fun w hS => e_conv_in rfl Try.underlying5 (by simp) Try.underlying133 (wrap32_byte _)) rfl hS ?_
    refine q_val (fun w hS => e_shl32 16 rfl rfl (by decide)) rfl hS ?_
    refine q_val (fun w hS => e_or32 rfl rfl) rfl hS ?_
    refine q_val (fun w hS => e_move (v := .slice _ _ _) rfl) rfl hS ?_
    refine q_val (fun w hS => e_move (v := .int _ _) rfl) rfl hS ?_
    refine q_val (fun w hS => e_mul64 rfl rfl (by omega)) rfl hS ?_
    refine q_val (fun w hS => e_add64 rfl rfl (by omega)) rfl hS ?_
    refine q_val (fun w hS => e_ix_sl rfl rfl Try.underlying33 sz5 (by omega)) rfl hS ?_
    refine q_val (fun w hS => e_load rfl ag5 (hS.rdOld R rfl |>.byte (by omega))) rfl hS ?_
    refine q_val (fun w hS => e_conv_in rfl Try.underlying5 (by simp) Try.underlying133 (wrap32_byte _)) rfl hS ?_
    refine q_val (fun w hS => e_shl32 8 rfl rfl (by decide)) rfl hS ?_
    refine q_val (fun w hS => e_or32 rfl rfl) rfl hS ?_
    refine q_val (fun w hS => e_move (v := .slice _ _ _) rfl) rfl hS ?_
    refine q_val (fun w hS => e_move (v := .int _ _) rfl) rfl hS ?_
    refine q_val (fun w hS => e_mul64 rfl rfl (by omega)) rfl hS ?_
    refine q_val (fun w hS => e_add64 rfl rfl (by omega)) rfl hS ?_
    refine q_val (fun w hS => e_ix_sl rfl rfl Try.underlying33 sz5 (by omega)) rfl hS ?_
    refine q_val (fun w hS => e_load rfl ag5 (hS.rdOld R rfl |>.byte (by omega))) rfl hS ?_
    refine q_val (fun w hS => e_conv_in rfl Try.underlying5 (by simp) Try.underlying133 (wrap32_byte _)) rfl hS ?_
    refine q_val (fun w hS => e_or32 rfl rfl) rfl hS ?_
    refine q_val (fun w hS => e_ix_arr rfl rfl Try.underlying137 sz133 (by omega)) rfl hS ?_
    refine q_does (d_store1 (v := .int _ _) S 0 rfl rfl rfl sz133 rfl rfl (by simp [length_sp1]; omega)) rfl ?_
    intro _ w S; refine ⟨S.tail.tail, ?_⟩
    refine q_nil (x_in (x_then (s_plain ?_)))
    refine p_val (e_add64 rfl rfl (by omega)) rfl ?_
    refine p_val (e_move (v := .int _ _) rfl) rfl ?_
    refine p_nil ?_
    refine x_round (i + 1) _ rfl ⟨_, upds_eq ⟨rfl, rfl, rfl, rfl, trivial⟩, by omega, spread_step1 S⟩ (by omega)
  · refine s_exit (x_then_exit (x_then_exit (x_in_same (x_then (s_seq (s_seq (s_plain ?_)))))))
    refine p_val (e_assign (v := .int _ _) rfl) rfl ?_
    refine p_nil (x_then (s_block ?_))
    refine s_loop (α := Nat) (fun g f' w' => ∃ u, f' = upds u [(0, .slice (some ad) 64 c), (2, .pointer (some ⟨b1, 0, none⟩)), (3, .pointer (some ⟨b2, 0, none⟩)), (5, .int .i64 ((16 + g : Nat) : Int))] ∧ g ≤ 48 ∧ St w0 w' [] [some b2, some b1] [Ex (wv (sp2 b g)).toArray 137, Ex zl137.toArray 137]) (fun g => 48 - g) (0) (⟨_, upds_eq ⟨rfl, rfl, rfl, rfl, trivial⟩, by omega, by obtain rfl : i = 16 := (by omega); exact S⟩) ?_
    rintro k f w ⟨u, rfl, hk, S⟩
    refine s_seq (s_seq (s_plain ?_))
    refine p_val (e_move (v := .int _ _) rfl) rfl ?_
    refine p_val (e_lss rfl rfl) rfl ?_
    refine p_nil (x_then ?_)
    refine s_cond rfl (fun hc => ?_) (fun hc => ?_)
    · refine s_skip (x_then (s_seq (s_block (s_seq ?_))))
      refine s_draw [(true, 0), (true, 1), (true, 2), (true, 3), (true, 4), (true, 5), (true, 6), (true, 7), (true, 8), (true, 9)] (fun w' => St w0 w' [] [some b2, some b1] [Ex (wv (sp2 b k)).toArray 137, Ex zl137.toArray 137]) mixed (by kernel_rfl) (by repeat (first | exact Calm.post _ _ _ | refine Calm.then ?_ _ | refine Calm.inB ?_ _)) ?_
      have S := S.drew
      have hS := S
      refine q_val (fun w hS => e_move (v := .int _ _) rfl) rfl hS ?_
      refine q_val (fun w hS => e_sub64 rfl rfl (by omega)) rfl hS ?_
      refine q_val (fun w hS => e_ix_arr rfl rfl Try.underlying137 sz133 (by omega)) rfl hS ?_
      refine q_val (fun w hS => e_load rfl ag133 ((hS.cell 0 rfl rfl _).trans (wv_getA (by rw [length_sp2]; omega)))) rfl hS ?_
      refine q_val (fun w hS => e_move (v := .int _ _) rfl) rfl hS ?_
      refine q_val (fun w hS => e_sub64 rfl rfl (by omega)) rfl hS ?_
      refine q_val (fun w hS => e_ix_arr rfl rfl Try.underlying137 sz133 (by omega)) rfl hS ?_
      refine q_val (fun w hS => e_load rfl ag133 ((hS.cell 0 rfl rfl _).trans (wv_getA (by rw [length_sp2]; omega)))) rfl hS ?_
      refine q_val (fun w hS => e_assign (v := .int _ _) rfl) rfl hS ?_
      refine q_val (fun w hS => e_assign (v := .int _ _) rfl) rfl hS ?_
      refine q_nil (x_then (s_seq (s_plain ?_)))
      refine p_val (e_move (v := .int _ _) rfl) rfl ?_
      refine p_does (d_call Try.func110 nm110 rfl rfl (rot_any _ 25 (-7) _ (by decide) (by decide))) rfl ?_
      rintro _ _ ⟨rfl, rfl⟩
      refine p_val (e_move (v := .int _ _) rfl) rfl ?_
      refine p_does (d_call Try.func110 nm110 rfl rfl (rot_any _ 14 (-18) _ (by decide) (by decide))) rfl ?_
      rintro _ _ ⟨rfl, rfl⟩
      refine p_val (e_xor32 rfl rfl) rfl ?_
      refine p_val (e_move (v := .int _ _) rfl) rfl ?_
      refine p_val (e_shr32 3 rfl rfl (by decide)) rfl ?_
      refine p_val (e_xor32 rfl rfl) rfl ?_
      refine p_val (e_assign (v := .int _ _) rfl) rfl ?_
      refine p_nil (x_then (s_seq (s_plain ?_)))
      refine p_val (e_move (v := .int _ _) rfl) rfl ?_
      refine p_does (d_call Try.func110 nm110 rfl rfl (rot_any _ 15 (-17) _ (by decide) (by decide))) rfl ?_
      rintro _ _ ⟨rfl, rfl⟩
      refine p_val (e_move (v := .int _ _) rfl) rfl ?_
      refine p_does (d_call Try.func110 nm110 rfl rfl (rot_any _ 13 (-19) _ (by decide) (by decide))) rfl ?_
      rintro _ _ ⟨rfl, rfl⟩
      refine p_val (e_xor32 rfl rfl) rfl ?_
      refine p_val (e_move (v := .int _ _) rfl) rfl ?_
      refine p_val (e_shr32 10 rfl rfl (by decide)) rfl ?_
      refine p_val (e_xor32 rfl rfl) rfl ?_
      refine p_val (e_assign (v := .int _ _) rfl) rfl ?_
      refine p_nil (x_then ?_)
      refine s_draw [(true, 0), (true, 1), (true, 2), (true, 3), (true, 4), (true, 5), (true, 6), (true, 7), (true, 8), (true, 9), (true, 10), (true, 11), (true, 12), (true, 13), (true, 14), (false, 15)] (fun w' => ∀ j, j < 16 + k → w'.cell? ((⟨b2, 0, none⟩ : Addr).add j) = some (.int .u32 ((sp2 b k).getD j 0 : Int))) mixed (by kernel_rfl) (by repeat (first | exact Calm.post _ _ _ | refine Calm.then ?_ _ | refine Calm.inB ?_ _)) ?_
      have S := S.drew
      have hS := fun j (hj : j < 16 + k) => (S.cell 0 rfl rfl j).trans (wv_getA (by rw [length_sp2]; omega))
      refine q_val (fun w hS => e_move (v := .int _ _) rfl) rfl hS ?_
      refine q_val (fun w hS => e_move (v := .int _ _) rfl) rfl hS ?_
      refine q_val (fun w hS => e_sub64 rfl rfl (by omega)) rfl hS ?_
      refine q_val (fun w hS => e_ix_arr rfl rfl Try.underlying137 sz133 (by omega)) rfl hS ?_
      refine q_val (fun w hS => e_load rfl ag133 (hS _ (by omega))) rfl hS ?_
      refine q_val (fun w hS => e_move (v := .int _ _) rfl) rfl hS ?_
      refine q_val (fun w hS => e_add32 rfl rfl) rfl hS ?_
      refine q_val (fun w hS => e_move (v := .int _ _) rfl) rfl hS ?_
      refine q_val (fun w hS => e_sub64 rfl rfl (by omega)) rfl hS ?_
      refine q_val (fun w hS => e_ix_arr rfl rfl Try.underlying137 sz133 (by omega)) rfl hS ?_
      refine q_val (fun w hS => e_load rfl ag133 (hS _ (by omega))) rfl hS ?_
      refine q_val (fun w hS => e_add32 rfl rfl) rfl hS ?_
      refine q_val (fun w hS => e_move (v := .int _ _) rfl) rfl hS ?_
      refine q_val (fun w hS => e_add32 rfl rfl) rfl hS ?_
      refine q_val (fun w hS => e_ix_arr rfl rfl Try.underlying137 sz133 (by omega)) rfl hS ?_
      refine q_does (d_store1 (v := .int _ _) S 0 rfl rfl rfl sz133 rfl rfl (by simp [length_sp2]; omega)) rfl ?_
      intro _ w S; refine ⟨fun j hj => (S.cell 0 rfl rfl j).trans (by rw [Array.getElem?_setIfInBounds_ne (by omega)]; exact wv_getA (by rw [length_sp2]; omega)), ?_⟩
      refine q_nil (x_in (x_then (s_plain ?_)))
      refine p_val (e_move (v := .int _ _) rfl) rfl ?_
      refine p_val (e_add64 rfl rfl (by omega)) rfl ?_
      refine p_val (e_assign (v := .int _ _) rfl) rfl ?_
      refine p_nil ?_
      refine x_round (k + 1) _ rfl ⟨_, upds_eq ⟨rfl, rfl, rfl, rfl, trivial⟩, by omega, spread_step2 S⟩ (by omega)
    · refine s_exit (x_then_exit (x_then_exit (x_in_same (x_then (s_seq (s_plain ?_))))))
      obtain rfl : k = 48 := by omega
      refine p_val (e_loadN (cs := wv (sp2 b 48)) rfl ag137 sz137 (by simp [length_sp2]) (fun j u hu => (S.cell 0 rfl rfl _).trans (by simpa using hu))) rfl ?_
      refine p_does (d_storeW S 1 rfl rfl (wv_one _) sz137 (by simp [length_sp2]) rfl rfl (by rfl)) rfl ?_
      intro _ w S
      refine p_nil (x_then (s_ret ?_))
      exact postC Try.results109 S 1 rfl rfl rfl ag137 sz137 (by simp [length_sp2]) ⟨rfl, S.to_below⟩
end Go.Proofs.Ytdhfiamgmokfbaa

/- SHA-256's beginnings, constants and rounds. It proves no statement by itself. -/
set_option linter.unusedSimpArgs false
set_option linter.unusedVariables false
set_option maxRecDepth 100000
set_option maxHeartbeats 1000000
namespace Go.Proofs.Ytdhfiamgmokfbaa
open Go Go.RowKit E
theorem rounds_calls (w0 : World) : Ret Try.prog 98 [] w0 fun v w' => v = .agg (wv K).toArray ∧ Below w0.heap.size w0 w' := by
  refine enter Try.func98 rfl Try.ntmps98 (Nat.le_of_ble_eq_true rfl) ?_
  have S := St.init w0
  refine s_seq (s_plain ?_)
  refine p_does (d_allocA S zv137) rfl ?_
  rintro _ w ⟨b1, rfl, S⟩
  refine p_nil (x_then (s_seq (s_plain ?_)))
  refine p_val (e_build (cs := wv K) (by kernel_rfl)) rfl ?_
  refine p_does (d_storeW S 0 rfl rfl (wv_one _) sz137 (by rfl) rfl rfl (by rfl)) rfl ?_
  intro _ w S
  refine p_nil (x_then (s_ret ?_))
  exact postC Try.results98 S 0 rfl rfl rfl ag137 sz137 (by rfl) ⟨rfl, S.to_below⟩
theorem first_calls (w0 : World) : Ret Try.prog 97 [] w0 fun v w' => v = .agg (wv (s8 first)).toArray ∧ Below w0.heap.size w0 w' := by
  refine enter Try.func97 rfl Try.ntmps97 (Nat.le_of_ble_eq_true rfl) ?_
  have S := St.init w0
  refine s_seq (s_plain ?_)
  refine p_does (d_allocA S zv135) rfl ?_
  rintro _ w ⟨b1, rfl, S⟩
  refine p_nil (x_then (s_seq (s_plain ?_)))
  refine p_val (e_build (cs := wv (s8 first)) (by kernel_rfl)) rfl ?_
  refine p_does (d_storeW S 0 rfl rfl (wv_one _) sz135 (by rfl) rfl rfl (by rfl)) rfl ?_
  intro _ w S
  refine p_nil (x_then (s_ret ?_))
  exact postC Try.results97 S 0 rfl rfl rfl ag135 sz135 (by rfl) ⟨rfl, S.to_below⟩
theorem block_calls (w0 : World) (hp kb : Nat) (ad : Addr) (c : Nat) (h : St8) (b : List Nat) (fr : Nat × Nat) (hh : w0.heap[hp]? = some (.cells (wv (s8 h)).toArray 135 (0, 0))) (hk : w0.heap[kb]? = some (.cells (wv K).toArray 137 fr)) (hne : kb ≠ hp) (R : Rd w0 1 (some ad) 64 (bv b)) :
    Ret Try.prog 100 [.pointer (some ⟨hp, 0, none⟩), .slice (some ad) 64 c, .pointer (some ⟨kb, 0, none⟩)] w0 fun v w' => St w0 w' [hp] [some hp] [Ex (wv (s8 (block h b))).toArray 135] := by
  refine enter Try.func100 rfl Try.ntmps100 (Nat.le_of_ble_eq_true rfl) ?_
  have S := St.init1 (Ex (wv (s8 h)).toArray 135) hh rfl
  refine s_seq (s_plain ?_)
  refine p_val (e_move (v := .slice _ _ _) rfl) rfl ?_
  refine p_does (d_call Try.func109 nm109 rfl rfl (spread_calls w0 ad c b R)) rfl ?_
  rintro _ w ⟨rfl, hB⟩
  have S := S.below hB
  obtain ⟨ws, hW⟩ : ∃ ws, ws = spread b := ⟨_, rfl⟩
  have hws : ws.length = 64 := by rw [hW, length_spread]
  rw [← hW]
  refine p_does (d_allocA S zv137) rfl ?_
  rintro _ w ⟨b1, rfl, S⟩
  refine p_does (d_storeW S 0 rfl rfl (wv_one _) sz137 (by simp only [List.size_toArray, wv_length, hws]) rfl rfl (by rfl)) rfl ?_
  intro _ w S
  refine p_nil (x_then (s_seq (s_plain ?_)))
  refine p_val (e_move (v := .pointer _) rfl) rfl ?_
  refine p_val (e_nil rfl rfl) rfl ?_
  refine p_val (e_loadN (cs := wv (s8 h)) rfl ag135 sz135 (by rfl) (fun j u hu => (S.cell 1 rfl rfl _).trans (by simpa using hu))) rfl ?_
  refine p_does (d_allocA S zv135) rfl ?_
  rintro _ w ⟨b2, rfl, S⟩
  refine p_does (d_storeW S 0 rfl rfl (wv_one _) sz135 (by rfl) rfl rfl (by rfl)) rfl ?_
  intro _ w S
  refine p_nil (x_then (s_seq (s_seq (s_plain ?_))))
  refine p_val (e_move (v := .int _ _) rfl) rfl ?_
  refine p_nil (x_then (s_block ?_))
  refine s_loop (α := Nat) (fun g f' w' => ∃ u v, f' = upds u [(0, .pointer (some ⟨hp, 0, none⟩)), (2, .pointer (some ⟨kb, 0, none⟩)), (6, .pointer (some ⟨b1, 0, none⟩)), (7, .pointer (some ⟨b2, 0, none⟩)), (20, .int .i64 (g : Int))] ∧ g ≤ 64 ∧ v = rounds ws h g ∧ St w0 w' [hp] [some b2, some b1, some hp] [Ex (wv (s8 v)).toArray 135, Ex (wv ws).toArray 137, Ex (wv (s8 h)).toArray 135]) (fun g => 64 - g) (0) (⟨_, _, upds_eq ⟨rfl, rfl, rfl, rfl, rfl, trivial⟩, by omega, rfl, S⟩) ?_
  rintro i f w ⟨u, v, rfl, hi, hv, S⟩
  refine s_seq (s_plain ?_)
  refine p_val (e_lss rfl rfl) rfl ?_
  refine p_nil (x_then (s_seq ?_))
  refine s_cond rfl (fun hc => ?_) (fun hc => ?_)
  · refine s_skip (x_then (s_seq (s_block (s_seq (s_plain ?_)))))
    refine p_val (e_move (v := .int _ _) rfl) rfl ?_
    refine p_val (e_assign (v := .int _ _) rfl) rfl ?_
    refine p_nil (x_then (s_seq (s_plain ?_)))
    refine p_val (e_ix_arr rfl rfl Try.underlying135 sz133 (by omega)) rfl ?_
    refine p_val (e_load rfl ag133 ((S.cell 0 rfl rfl _).trans (rfl))) rfl ?_
    refine p_val (e_assign (v := .int _ _) rfl) rfl ?_
    refine p_nil (x_then (s_seq (s_plain ?_)))
    refine p_val (e_move (v := .int _ _) rfl) rfl ?_
    refine p_does (d_call Try.func110 nm110 rfl rfl (rot_any _ 26 (-6) _ (by decide) (by decide))) rfl ?_
    rintro _ _ ⟨rfl, rfl⟩
    refine p_val (e_move (v := .int _ _) rfl) rfl ?_
    refine p_does (d_call Try.func110 nm110 rfl rfl (rot_any _ 21 (-11) _ (by decide) (by decide))) rfl ?_
    rintro _ _ ⟨rfl, rfl⟩
    refine p_val (e_xor32 rfl rfl) rfl ?_
    refine p_val (e_move (v := .int _ _) rfl) rfl ?_
    refine p_does (d_call Try.func110 nm110 rfl rfl (rot_any _ 7 (-25) _ (by decide) (by decide))) rfl ?_
    rintro _ _ ⟨rfl, rfl⟩
    refine p_val (e_xor32 rfl rfl) rfl ?_
    refine p_val (e_assign (v := .int _ _) rfl) rfl ?_
    refine p_nil (x_then (s_seq ?_))
    refine s_draw [(true, 0), (true, 1), (true, 2), (true, 3), (true, 4), (true, 5), (true, 6), (true, 7), (true, 8), (true, 9), (true, 10), (true, 11), (true, 12), (true, 13), (true, 14), (true, 15), (true, 16), (true, 17), (true, 18), (true, 19), (true, 20), (true, 21), (true, 22), (true, 23), (true, 24), (true, 25)] (fun w' => St w0 w' [hp] [some b2, some b1, some hp] [Ex (wv (s8 v)).toArray 135, Ex (wv ws).toArray 137, Ex (wv (s8 h)).toArray 135]) mixed (by kernel_rfl) (by repeat (first | exact Calm.post _ _ _ | refine Calm.then ?_ _ | refine Calm.inB ?_ _)) ?_
    have S := S.drew
    have hS := S
    refine q_val (fun w hS => e_ix_arr rfl rfl Try.underlying135 sz133 (by omega)) rfl hS ?_
    refine q_val (fun w hS => e_load rfl ag133 ((hS.cell 0 rfl rfl _).trans (rfl))) rfl hS ?_
    refine q_val (fun w hS => e_move (v := .int _ _) rfl) rfl hS ?_
    refine q_val (fun w hS => e_add32 rfl rfl) rfl hS ?_
    refine q_val (fun w hS => e_move (v := .int _ _) rfl) rfl hS ?_
    refine q_val (fun w hS => e_ix_arr rfl rfl Try.underlying135 sz133 (by omega)) rfl hS ?_
    refine q_val (fun w hS => e_load rfl ag133 ((hS.cell 0 rfl rfl _).trans (rfl))) rfl hS ?_
    refine q_val (fun w hS => e_and32 rfl rfl) rfl hS ?_
    refine q_val (fun w hS => e_move (v := .int _ _) rfl) rfl hS ?_
    refine q_val (fun w hS => e_not32 rfl) rfl hS ?_
    refine q_val (fun w hS => e_ix_arr rfl rfl Try.underlying135 sz133 (by omega)) rfl hS ?_
    refine q_val (fun w hS => e_load rfl ag133 ((hS.cell 0 rfl rfl _).trans (rfl))) rfl hS ?_
    refine q_val (fun w hS => e_and32 rfl rfl) rfl hS ?_
    refine q_val (fun w hS => e_xor32 rfl rfl) rfl hS ?_
    refine q_val (fun w hS => e_add32 rfl rfl) rfl hS ?_
    refine q_val (fun w hS => e_move (v := .pointer _) rfl) rfl hS ?_
    refine q_val (fun w hS => e_move (v := .int _ _) rfl) rfl hS ?_
    refine q_val (fun w hS => e_nil rfl rfl) rfl hS ?_
    refine q_val (fun w hS => e_ix_arr rfl rfl Try.underlying137 sz133 (by omega)) rfl hS ?_
    refine q_val (fun w hS => e_load rfl ag133 ((hS.oldCell hk (by simpa using hne) _).trans (wv_getA (by simp only [K, List.length_cons, List.length_nil]; omega)))) rfl hS ?_
    refine q_val (fun w hS => e_add32 rfl rfl) rfl hS ?_
    refine q_val (fun w hS => e_move (v := .int _ _) rfl) rfl hS ?_
    refine q_val (fun w hS => e_ix_arr rfl rfl Try.underlying137 sz133 (by omega)) rfl hS ?_
    refine q_val (fun w hS => e_load rfl ag133 ((hS.cell 1 rfl rfl _).trans (wv_getA (by rw [hws]; omega)))) rfl hS ?_
    refine q_val (fun w hS => e_add32 rfl rfl) rfl hS ?_
    refine q_val (fun w hS => e_assign (v := .int _ _) rfl) rfl hS ?_
    refine q_nil (x_then (s_seq (s_plain ?_)))
    refine p_val (e_ix_arr rfl rfl Try.underlying135 sz133 (by omega)) rfl ?_
    refine p_val (e_load rfl ag133 ((S.cell 0 rfl rfl _).trans (rfl))) rfl ?_
    refine p_val (e_assign (v := .int _ _) rfl) rfl ?_
    refine p_nil (x_then (s_seq (s_plain ?_)))
    refine p_val (e_move (v := .int _ _) rfl) rfl ?_
    refine p_does (d_call Try.func110 nm110 rfl rfl (rot_any _ 30 (-2) _ (by decide) (by decide))) rfl ?_
    rintro _ _ ⟨rfl, rfl⟩
    refine p_val (e_move (v := .int _ _) rfl) rfl ?_
    refine p_does (d_call Try.func110 nm110 rfl rfl (rot_any _ 19 (-13) _ (by decide) (by decide))) rfl ?_
    rintro _ _ ⟨rfl, rfl⟩
    refine p_val (e_xor32 rfl rfl) rfl ?_
    refine p_val (e_move (v := .int _ _) rfl) rfl ?_
    refine p_does (d_call Try.func110 nm110 rfl rfl (rot_any _ 10 (-22) _ (by decide) (by decide))) rfl ?_
    rintro _ _ ⟨rfl, rfl⟩
    refine p_val (e_xor32 rfl rfl) rfl ?_
    refine p_val (e_assign (v := .int _ _) rfl) rfl ?_
    refine p_nil (x_then (s_seq (s_plain ?_)))
    refine p_val (e_move (v := .int _ _) rfl) rfl ?_
    refine p_val (e_move (v := .int _ _) rfl) rfl ?_
    refine p_val (e_ix_arr rfl rfl Try.underlying135 sz133 (by omega)) rfl ?_
    refine p_val (e_load rfl ag133 ((S.cell 0 rfl rfl _).trans (rfl))) rfl ?_
    refine p_val (e_and32 rfl rfl) rfl ?_
    refine p_val (e_move (v := .int _ _) rfl) rfl ?_
    refine p_val (e_ix_arr rfl rfl Try.underlying135 sz133 (by omega)) rfl ?_
    refine p_val (e_load rfl ag133 ((S.cell 0 rfl rfl _).trans (rfl))) rfl ?_
    refine p_val (e_and32 rfl rfl) rfl ?_
    refine p_val (e_xor32 rfl rfl) rfl ?_
    refine p_val (e_ix_arr rfl rfl Try.underlying135 sz133 (by omega)) rfl ?_
    refine p_val (e_load rfl ag133 ((S.cell 0 rfl rfl _).trans (rfl))) rfl ?_
    refine p_val (e_ix_arr rfl rfl Try.underlying135 sz133 (by omega)) rfl ?_
    refine p_val (e_load rfl ag133 ((S.cell 0 rfl rfl _).trans (rfl))) rfl ?_
    refine p_val (e_and32 rfl rfl) rfl ?_
    refine p_val (e_xor32 rfl rfl) rfl ?_
    refine p_val (e_add32 rfl rfl) rfl ?_
    refine p_val (e_assign (v := .int _ _) rfl) rfl ?_
    refine p_nil (x_then (s_seq ?_))
    refine s_draw [(true, 0), (true, 1), (false, 2)] (fun w' => St w0 w' [hp] [] []) mixed (by kernel_rfl) (by repeat (first | exact Calm.post _ _ _ | refine Calm.then ?_ _ | refine Calm.inB ?_ _)) ?_
    have S := S.drew
    have hS := S.none_
    refine q_val (fun w hS => e_sl_arr_l 1 rfl rfl rfl (by decide) Try.underlying135 sz133) rfl hS ?_
    refine q_val (fun w hS => e_sl_arr_h 7 rfl rfl rfl (by decide) Try.underlying135 sz133) rfl hS ?_
    refine q_does (d_copy S 0 rfl rfl Try.underlying162 (by kernel_rfl) rfl rfl ((S.rdEx 0 rfl rfl (n := 8) rfl).take (m := 7) (by decide)) ((by intro u hu; exact wv_one _ u (by simpa using List.mem_of_mem_take hu))) (by exact Nat.le_of_ble_eq_true rfl)) rfl ?_
    rintro _ w ⟨rfl, S⟩; refine ⟨S.none_, ?_⟩
    refine q_nil (x_then (s_seq (s_plain ?_)))
    refine p_val (e_ix_arr rfl rfl Try.underlying135 sz133 (by omega)) rfl ?_
    refine p_val (e_load rfl ag133 ((S.cell 0 rfl rfl _).trans (rfl))) rfl ?_
    refine p_val (e_move (v := .int _ _) rfl) rfl ?_
    refine p_val (e_add32 rfl rfl) rfl ?_
    refine p_val (e_ix_arr rfl rfl Try.underlying135 sz133 (by omega)) rfl ?_
    refine p_does (d_store1 (v := .int _ _) S 0 rfl rfl rfl sz133 rfl rfl (by exact Nat.le_of_ble_eq_true rfl)) rfl ?_
    intro _ w S
    refine p_nil (x_then (s_plain ?_))
    refine p_val (e_move (v := .int _ _) rfl) rfl ?_
    refine p_val (e_move (v := .int _ _) rfl) rfl ?_
    refine p_val (e_add32 rfl rfl) rfl ?_
    refine p_val (e_ix_arr rfl rfl Try.underlying135 sz133 (by omega)) rfl ?_
    refine p_does (d_store1 (v := .int _ _) S 0 rfl rfl rfl sz133 rfl rfl (by exact Nat.le_of_ble_eq_true rfl)) rfl ?_
    intro _ w S
    refine p_nil (x_in (x_then (s_plain ?_)))
    refine p_val (e_add64 rfl rfl (by omega)) rfl ?_
    refine p_val (e_move (v := .int _ _) rfl) rfl ?_
    refine p_nil ?_
    refine x_round (i + 1) _ rfl ⟨_, rnd v (K.getD i 0) (ws.getD i 0), upds_eq ⟨rfl, rfl, rfl, rfl, rfl, trivial⟩, by omega, by rw [hv]; rfl, by simp only [Int.toNat_natCast, Nat.mul_one] at S; exact S⟩ (by omega)
  · refine s_exit (x_then_exit (x_then_exit (x_in_same (x_then (s_seq (s_plain ?_))))))
    refine p_val (e_move (v := .int _ _) rfl) rfl ?_
    refine p_nil (x_then (s_block ?_))
    refine s_loop (α := Nat) (fun g f' w' => ∃ u l, f' = upds u [(0, .pointer (some ⟨hp, 0, none⟩)), (7, .pointer (some ⟨b2, 0, none⟩)), (98, .int .i64 (g : Int))] ∧ g ≤ 8 ∧ l = addTo (s8 h) (s8 v) g ∧ St w0 w' [hp] [some b2, some b1, some hp] [Ex (wv (s8 v)).toArray 135, Ex (wv ws).toArray 137, Ex (wv l).toArray 135]) (fun g => 8 - g) (0) (⟨_, s8 h, upds_eq ⟨rfl, rfl, rfl, trivial⟩, by omega, rfl, S⟩) ?_
    rintro k f w ⟨u, l, rfl, hk, hl, S⟩
    refine s_seq (s_plain ?_)
    refine p_val (e_lss rfl rfl) rfl ?_
    refine p_nil (x_then (s_seq ?_))
    refine s_cond rfl (fun hc => ?_) (fun hc => ?_)
    · refine s_skip (x_then (s_seq (s_block (s_seq (s_plain ?_)))))
      refine p_val (e_move (v := .int _ _) rfl) rfl ?_
      refine p_val (e_assign (v := .int _ _) rfl) rfl ?_
      refine p_nil (x_then ?_)
      refine s_draw [(true, 0), (true, 1), (true, 2), (true, 3), (true, 5), (true, 6), (true, 7), (true, 9), (false, 4), (true, 8), (true, 10), (false, 11)] (fun w' => St w0 w' [hp] [some b2] [Ex (wv (s8 v)).toArray 135]) mixed (by kernel_rfl) (by repeat (first | exact Calm.post _ _ _ | refine Calm.then ?_ _ | refine Calm.inB ?_ _)) ?_
      have S := S.drew
      have hS := S.head
      refine q_val (fun w hS => e_move (v := .pointer _) rfl) rfl hS ?_
      refine q_val (fun w hS => e_move (v := .int _ _) rfl) rfl hS ?_
      refine q_val (fun w hS => e_nil rfl rfl) rfl hS ?_
      refine q_val (fun w hS => e_ix_arr rfl rfl Try.underlying135 sz133 (by omega)) rfl hS ?_
      refine q_val (fun w hS => e_move (v := .int _ _) rfl) rfl hS ?_
      refine q_val (fun w hS => e_ix_arr rfl rfl Try.underlying135 sz133 (by omega)) rfl hS ?_
      refine q_val (fun w hS => e_load rfl ag133 ((hS.cell 0 rfl rfl _).trans (wv_getA (by simp only [s8, List.length_cons, List.length_nil]; omega)))) rfl hS ?_
      refine q_val (fun w hS => e_nil rfl rfl) rfl hS ?_
      refine q_eff (e_load rfl ag133 ((S.cell 2 rfl rfl _).trans (wv_getA (by rw [hl, length_addTo]; simp only [s8, List.length_cons, List.length_nil]; omega)))) rfl hS ?_
      refine q_val (fun w hS => e_add32 rfl rfl) rfl hS ?_
      refine q_val (fun w hS => e_ix_arr rfl rfl Try.underlying135 sz133 (by omega)) rfl hS ?_
      refine q_does (d_store1 (v := .int _ _) S 2 rfl rfl rfl sz133 rfl rfl (by simp only [List.size_toArray, wv_length, hl, length_addTo, s8, List.length_cons, List.length_nil]; omega)) rfl ?_
      intro _ w S; refine ⟨S.head, ?_⟩
      refine q_nil (x_in (x_then (s_plain ?_)))
      refine p_val (e_add64 rfl rfl (by omega)) rfl ?_
      refine p_val (e_move (v := .int _ _) rfl) rfl ?_
      refine p_nil ?_
      refine x_round (k + 1) _ rfl ⟨_, l.set k (add32 (l.getD k 0) ((s8 v).getD k 0)), upds_eq ⟨rfl, rfl, rfl, trivial⟩, by omega, by rw [hl]; rfl, by simp only [wv_set, Int.toNat_natCast, Nat.mul_one] at S; exact S⟩ (by omega)
    · refine s_exit (x_then_exit (x_then_exit (x_in_same (post_end ?_))))
      exact post0 Try.results100 (by obtain rfl : k = 8 := (by omega); obtain rfl : i = 64 := (by omega); rw [hl, addTo_8, hv, hW] at S; exact S.tail.tail)
end Go.Proofs.Ytdhfiamgmokfbaa

/- SHA-256's padding. It proves no statement by itself. -/
set_option linter.unusedSimpArgs false
set_option linter.unusedVariables false
set_option maxRecDepth 100000
set_option maxHeartbeats 1000000
namespace Go.Proofs.Ytdhfiamgmokfbaa
open Go Go.RowKit E
theorem padded_calls (w0 : World) (A : Option Addr) (c0 : Nat) (l : List Nat) (R : Rd w0 1 A l.length (bv l)) (hl : l.length ≤ 1099511627776) :
    Ret Try.prog 99 [.slice A l.length c0] w0 fun v w' => ∃ k c, v = .slice (at_ k) (pad l).length c ∧ St w0 w' [] [k] [Rw 5 1 (pad l).length c (bv (pad l))] := by
  have hpz : padZ l.length ≤ 63 := by unfold padZ; omega
  refine enter Try.func99 rfl Try.ntmps99 (Nat.le_of_ble_eq_true rfl) ?_
  have S := St.init w0
  refine s_seq (s_plain ?_)
  refine p_val (e_assign (v := .slice _ _ _) rfl) rfl ?_
  refine p_nil (x_then (s_seq (s_plain ?_)))
  refine p_val (e_move (v := .slice _ _ _) rfl) rfl ?_
  refine p_val (e_len rfl Try.underlying33) rfl ?_
  refine p_val (e_convU64 rfl Try.underlying3 (by simp) Try.underlying150) rfl ?_
  refine p_val (e_mulU64 rfl rfl) rfl ?_
  refine p_val (e_assign (v := .int _ _) rfl) rfl ?_
  refine p_nil (x_then (s_seq (s_plain ?_)))
  refine p_val (e_move (v := .slice _ _ _) rfl) rfl ?_
  have S := S.addNil 5 1
  refine p_does (d_append S 0 rfl rfl Try.underlying33 el5 rfl rfl (S.rdOld R rfl) (bv_one _) (by omega) (by unfold maxLen; omega)) rfl ?_
  rintro _ w ⟨k11, c11, rfl, S⟩
  refine p_does (d_litB S Try.underlying33 sz5 zv5 rfl (l := [_]) rfl rfl (by decide)) rfl ?_
  rintro _ w ⟨b2, rfl, S⟩
  refine p_does (d_append S 1 rfl rfl Try.underlying33 el5 rfl rfl (S.rdRw 0 rfl rfl) (bv_one _) (by omega) (by unfold maxLen; omega)) rfl ?_
  rintro _ w ⟨k13, c13, rfl, S⟩
  refine p_val (e_assign (v := .slice _ _ _) rfl) rfl ?_
  refine p_nil (x_then (s_seq (s_block ?_)))
  refine s_loop (α := Nat) (fun g f' w' => ∃ u k c m, f' = upds u [(3, .int .u64 ((l.length % 18446744073709551616 * 8 % 18446744073709551616 : Nat) : Int)), (4, .slice (at_ k) m c)] ∧ g ≤ padZ l.length ∧ m = l.length + 1 + g ∧ St w0 w' [] [k] [Rw 5 1 m c (bv (padTo l g))]) (fun g => padZ l.length - g) (0) (⟨_, _, _, _, upds_eq ⟨rfl, rfl, trivial⟩, Nat.zero_le _, by omega, S.tail.as1 (by simp [padTo, bv])⟩) ?_
  rintro j f w ⟨u, k, c, m, rfl, hj, hm, S⟩
  refine s_seq (s_seq (s_plain ?_))
  refine p_val (e_move (v := .slice _ _ _) rfl) rfl ?_
  refine p_val (e_len rfl Try.underlying33) rfl ?_
  refine p_val (e_rem64 rfl rfl (by omega)) rfl ?_
  refine p_val (e_neq rfl rfl) rfl ?_
  refine p_nil (x_then ?_)
  refine s_cond rfl (fun hc => ?_) (fun hc => ?_)
  · refine s_skip (x_then (s_block (s_plain ?_)))
    refine p_val (e_move (v := .slice _ _ _) rfl) rfl ?_
    refine p_does (d_litB S Try.underlying33 sz5 zv5 rfl (l := [_]) rfl rfl (by decide)) rfl ?_
    rintro _ w ⟨b4, rfl, S⟩
    refine p_does (d_append S 1 rfl rfl Try.underlying33 el5 rfl rfl (S.rdRw 0 rfl rfl) (bv_one _) (by omega) (by unfold maxLen; omega)) rfl ?_
    rintro _ w ⟨k20, c20, rfl, S⟩
    refine p_val (e_assign (v := .slice _ _ _) rfl) rfl ?_
    refine p_nil (x_in ?_)
    refine x_round (j + 1) _ rfl ⟨_, _, _, _, upds_eq ⟨rfl, rfl, trivial⟩, by unfold padZ at hj ⊢; omega, by omega, S.tail.as1 (by rw [← bv_append, padTo_succ])⟩ (by have hz : j + 1 ≤ padZ l.length := (by unfold padZ at hj ⊢; omega); omega)
  · refine s_exit (x_then_exit (x_then_exit (x_in_same (x_then (s_seq (s_seq (s_plain ?_)))))))
    refine p_val (e_assign (v := .int _ _) rfl) rfl ?_
    refine p_nil (x_then (s_block ?_))
    refine s_loop (α := Nat) (fun g f' w' => ∃ u k c m, f' = upds u [(3, .int .u64 ((l.length % 18446744073709551616 * 8 % 18446744073709551616 : Nat) : Int)), (4, .slice (at_ k) m c), (5, .int .i64 (56 - 8 * (g : Int)))] ∧ g ≤ 8 ∧ m = l.length + 1 + padZ l.length + g ∧ St w0 w' [] [k] [Rw 5 1 m c (bv (padTo l (padZ l.length) ++ len8 (l.length % 18446744073709551616 * 8 % 18446744073709551616) g))]) (fun g => 8 - g) (0) (⟨_, _, _, _, upds_eq ⟨rfl, rfl, rfl, trivial⟩, by omega, by unfold padZ at hj ⊢; omega, S.as1 (by rw [show j = padZ l.length by unfold padZ at hj ⊢; omega]; simp [len8])⟩) ?_
    rintro q f w ⟨u, k, c, m, rfl, hq, hm, S⟩
    refine s_seq (s_seq (s_plain ?_))
    refine p_val (e_move (v := .int _ _) rfl) rfl ?_
    refine p_val (e_geq rfl rfl) rfl ?_
    refine p_nil (x_then ?_)
    refine s_cond rfl (fun hc => ?_) (fun hc => ?_)
    · refine s_skip (x_then (s_seq (s_block (s_plain ?_))))
      refine p_val (e_move (v := .slice _ _ _) rfl) rfl ?_
      refine p_val (e_move (v := .int _ _) rfl) rfl ?_
      refine p_val (e_move (v := .int _ _) rfl) rfl ?_
      refine p_val (e_shr64 (56 - 8 * q) rfl (show Value.int .i64 (56 - 8 * (q : Int)) = .int .i64 ((56 - 8 * q : Nat) : Int) from congrArg _ (by omega)) (by show 56 - 8 * q ≤ 64; omega)) rfl ?_
      refine p_val (e_conv8 rfl Try.underlying150 (by simp) Try.underlying5) rfl ?_
      refine p_does (d_litB S Try.underlying33 sz5 zv5 rfl (l := [_]) rfl rfl (by decide)) rfl ?_
      rintro _ w ⟨b5, rfl, S⟩
      refine p_does (d_append S 1 rfl rfl Try.underlying33 el5 rfl rfl (S.rdRw 0 rfl rfl) (bv_one _) (by omega) (by unfold maxLen; omega)) rfl ?_
      rintro _ w ⟨k31, c31, rfl, S⟩
      refine p_val (e_assign (v := .slice _ _ _) rfl) rfl ?_
      refine p_nil (x_in (x_then (s_plain ?_)))
      refine p_val (e_move (v := .int _ _) rfl) rfl ?_
      refine p_val (e_sub64 rfl rfl (by omega)) rfl ?_
      refine p_val (e_assign (v := .int _ _) rfl) rfl ?_
      refine p_nil ?_
      refine x_round (q + 1) _ rfl ⟨_, _, _, _, upds_eq ⟨rfl, rfl, congrArg (Value.int .i64) (by omega), trivial⟩, by omega, by omega, S.tail.as1 (by rw [← bv_append, List.append_assoc]; rfl)⟩ (by omega)
    · refine s_exit (x_then_exit (x_then_exit (x_in_same (x_then (s_seq (s_plain ?_))))))
      refine p_val (e_move (v := .slice _ _ _) rfl) rfl ?_
      refine p_val (e_assign (v := .slice _ _ _) rfl) rfl ?_
      refine p_nil (x_then (s_ret ?_))
      exact post1 Try.results99 rfl (by obtain rfl : q = 8 := (by omega); obtain rfl : m = (pad l).length := (by rw [length_pad]; omega); exact ⟨_, _, rfl, S⟩)
end Go.Proofs.Ytdhfiamgmokfbaa

/- SHA-256's sums. It proves no statement by itself. -/
set_option linter.unusedSimpArgs false
set_option linter.unusedVariables false
set_option maxRecDepth 100000
set_option maxHeartbeats 1000000
namespace Go.Proofs.Ytdhfiamgmokfbaa
open Go Go.RowKit E
theorem wv_getL {l : List Nat} {i : Nat} (h : i < l.length) : (wv l)[i]? = some (.int .u32 (l.getD i 0 : Int)) := wv_get h
theorem outB_step {a : Array Value} (h : List Nat) (g : Nat) (e : a = (bv (outB h g)).toArray) (x0 x1 x2 x3 : Nat) (i0 i1 i2 i3 : Nat) (h0 : i0 = 4 * g) (h1 : i1 = 4 * g + 1) (h2 : i2 = 4 * g + 2) (h3 : i3 = 4 * g + 3)
    (e0 : x0 = shr32 (h.getD g 0) 24 % 256) (e1 : x1 = shr32 (h.getD g 0) 16 % 256) (e2 : x2 = shr32 (h.getD g 0) 8 % 256) (e3 : x3 = h.getD g 0 % 256) :
    (((a.setIfInBounds i0 (.int .u8 (x0 : Int))).setIfInBounds i1 (.int .u8 (x1 : Int))).setIfInBounds i2 (.int .u8 (x2 : Int))).setIfInBounds i3 (.int .u8 (x3 : Int)) = (bv (outB h (g + 1))).toArray := by
  subst e h0 h1 h2 h3 e0 e1 e2 e3
  simp only [bv_set]
  rfl
theorem of_calls (w0 : World) (A : Option Addr) (c0 : Nat) (l : List Nat) (R : Rd w0 1 A l.length (bv l)) (hl : l.length ≤ 1099511627776) :
    Ret Try.prog 80 [.slice A l.length c0] w0 fun v w' => v = .agg (bv (sumOf l)).toArray ∧ Below w0.heap.size w0 w' := by
  have hp64 : (pad l).length % 64 = 0 := by rw [length_pad]; unfold padZ; omega
  refine enter Try.func80 rfl Try.ntmps80 (Nat.le_of_ble_eq_true rfl) ?_
  have S := St.init w0
  refine s_seq (s_plain ?_)
  refine p_does (d_allocA S zv29) rfl ?_
  rintro _ w ⟨b1, rfl, S⟩
  refine p_nil (x_then (s_seq (s_plain ?_)))
  refine p_does (d_call Try.func97 nm97 rfl rfl (first_calls _)) rfl ?_
  rintro _ w ⟨rfl, hB⟩
  have S := S.below hB
  refine p_does (d_call Try.func98 nm98 rfl rfl (rounds_calls _)) rfl ?_
  rintro _ w ⟨rfl, hB⟩
  have S := S.below hB
  refine p_does (d_allocA S zv135) rfl ?_
  rintro _ w ⟨b2, rfl, S⟩
  refine p_does (d_allocA S zv137) rfl ?_
  rintro _ w ⟨b3, rfl, S⟩
  refine p_does (d_storeW S 1 rfl rfl (wv_one _) sz135 (by rfl) rfl rfl (by rfl)) rfl ?_
  intro _ w S
  refine p_does (d_storeW S 0 rfl rfl (wv_one _) sz137 (by rfl) rfl rfl (by rfl)) rfl ?_
  intro _ w S
  refine p_nil (x_then (s_seq (s_seq (s_plain ?_))))
  refine p_val (e_move (v := .slice _ _ _) rfl) rfl ?_
  refine p_does (d_call Try.func99 nm99 rfl rfl (padded_calls _ A c0 l (S.rdOld R rfl) hl)) rfl ?_
  rintro _ w ⟨pk, pc, rfl, T⟩
  have S := S.merge T rfl
  refine p_val (e_assign (v := .slice _ _ _) rfl) rfl ?_
  refine p_nil (x_then (s_block ?_))
  refine s_loop (α := Nat) (fun g f' w' => ∃ u A' c m, f' = upds u [(2, .pointer (some ⟨b1, 0, none⟩)), (3, .pointer (some ⟨b2, 0, none⟩)), (4, .pointer (some ⟨b3, 0, none⟩)), (5, .slice A' m c)] ∧ 64 * g + m = (pad l).length ∧ m ≤ c ∧ (∀ ad, A' = some ad → ad.block ≠ b2) ∧ Rd w' 1 A' m (bv ((pad l).drop (64 * g))) ∧ St w0 w' [] [some b3, some b2, some b1] [Ex (wv K).toArray 137, Ex (wv (s8 (hashes (pad l) g))).toArray 135, Ex zl29.toArray 29]) (fun g => (pad l).length - 64 * g) (0) (⟨_, _, _, _, upds_eq ⟨rfl, rfl, rfl, rfl, trivial⟩, by omega, S.capRw 0 rfl rfl, S.at_ne 0 2 rfl rfl (by decide), S.rdRw 0 rfl rfl, S.tail⟩) ?_
  rintro g0 f w ⟨u, A', c, m, rfl, hm, hc', hA, hR, S⟩
  refine s_seq (s_seq (s_plain ?_))
  refine p_val (e_move (v := .slice _ _ _) rfl) rfl ?_
  refine p_val (e_len rfl Try.underlying33) rfl ?_
  refine p_val (e_gtr rfl rfl) rfl ?_
  refine p_nil (x_then ?_)
  refine s_cond rfl (fun hc => ?_) (fun hc => ?_)
  · refine s_skip (x_then (s_seq (s_block (s_plain ?_))))
    refine p_val (e_move (v := .slice _ _ _) rfl) rfl ?_
    obtain ⟨ad, rfl⟩ := hR.some_ (by rw [bv_length, List.length_drop]; omega)
    refine p_val (e_sl_h (64) rfl rfl (by omega) (by omega) Try.underlying33 sz5) rfl ?_
    refine p_does (d_call Try.func100 nm100 rfl rfl (block_calls _ b2 b3 ad c (hashes (pad l) g0) (((pad l).drop (64 * g0)).take 64) (0, 0) (S.exact_ 1 rfl rfl) (S.exact_ 0 rfl rfl) (S.ne 0 1 rfl rfl (by decide)) (Rd.take_bv hR (by omega)))) rfl ?_
    rintro _ w T
    have hR := hR.keep T (fun ad h => by cases h; simpa using hA _ rfl)
    have S := (S.sub1 1 T rfl rfl).pick [1, 0, 3] (by decide) (by simp) (by simp)
    refine p_nil (x_in (x_then (s_plain ?_)))
    refine p_val (e_move (v := .slice _ _ _) rfl) rfl ?_
    refine p_val (e_sl_l (64) rfl rfl (by omega) (by omega) Try.underlying33 sz5) rfl ?_
    refine p_val (e_assign (v := .slice _ _ _) rfl) rfl ?_
    refine p_nil ?_
    refine x_round (g0 + 1) _ rfl ⟨_, _, _, _, upds_eq ⟨rfl, rfl, rfl, rfl, trivial⟩, by omega, by omega, sl_block hA, by have := Rd.drop_bv (m := 64) hR (by omega) hc'; rw [List.drop_drop] at this; exact this, S⟩ (by omega)
  · refine s_exit (x_then_exit (x_then_exit (x_in_same (x_then (s_seq (s_plain ?_))))))
    refine p_does (d_allocA S zv29) rfl ?_
    rintro _ w ⟨b7, rfl, S⟩
    refine p_nil (x_then (s_seq (s_seq (s_plain ?_))))
    refine p_val (e_loadN (cs := wv (s8 (hashes (pad l) g0))) rfl ag135 sz135 (by rfl) (fun j u hu => (S.cell 2 rfl rfl _).trans (by simpa using hu))) rfl ?_
    refine p_val (e_move (v := .int _ _) rfl) rfl ?_
    refine p_nil (x_then (s_block ?_))
    refine s_loop (α := Nat) (fun g f' w' => ∃ u, f' = upds u [(2, .pointer (some ⟨b1, 0, none⟩)), (6, .pointer (some ⟨b7, 0, none⟩)), (21, .agg (wv (s8 (hashes (pad l) g0))).toArray), (22, .int .i64 (g : Int))] ∧ g ≤ 8 ∧ St w0 w' [] [some b7, some b1] [Ex (bv (outB (s8 (hashes (pad l) g0)) g)).toArray 29, Ex zl29.toArray 29]) (fun g => 8 - g) (0) (⟨_, upds_eq ⟨rfl, rfl, rfl, rfl, trivial⟩, by omega, S.pick [0, 3] (by decide) (by simp) (by simp)⟩) ?_
    rintro q f w ⟨u, rfl, hq, S⟩
    refine s_seq (s_plain ?_)
    refine p_val (e_lss rfl rfl) rfl ?_
    refine p_nil (x_then (s_seq ?_))
    refine s_cond rfl (fun hc => ?_) (fun hc => ?_)
    · refine s_skip (x_then (s_seq (s_block (s_seq (s_plain ?_)))))
      refine p_val (e_move (v := .int _ _) rfl) rfl ?_
      refine p_val (e_index rfl rfl Try.underlying135 ag133 sz133 (by omega) (wv_get (by simp only [s8, List.length_cons, List.length_nil]; omega))) rfl ?_
      refine p_val (e_assign (v := .int _ _) rfl) rfl ?_
      refine p_val (e_assign (v := .int _ _) rfl) rfl ?_
      refine p_nil (x_then (s_plain ?_))
      refine p_val (e_move (v := .int _ _) rfl) rfl ?_
      refine p_val (e_mul64 rfl rfl (by omega)) rfl ?_
      refine p_val (e_move (v := .int _ _) rfl) rfl ?_
      refine p_val (e_mul64 rfl rfl (by omega)) rfl ?_
      refine p_val (e_add64 rfl rfl (by omega)) rfl ?_
      refine p_val (e_move (v := .int _ _) rfl) rfl ?_
      refine p_val (e_mul64 rfl rfl (by omega)) rfl ?_
      refine p_val (e_add64 rfl rfl (by omega)) rfl ?_
      refine p_val (e_move (v := .int _ _) rfl) rfl ?_
      refine p_val (e_mul64 rfl rfl (by omega)) rfl ?_
      refine p_val (e_add64 rfl rfl (by omega)) rfl ?_
      refine p_val (e_move (v := .int _ _) rfl) rfl ?_
      refine p_val (e_shr32 24 rfl rfl (by decide)) rfl ?_
      refine p_val (e_conv8 rfl Try.underlying133 (by simp) Try.underlying5) rfl ?_
      refine p_val (e_move (v := .int _ _) rfl) rfl ?_
      refine p_val (e_shr32 16 rfl rfl (by decide)) rfl ?_
      refine p_val (e_conv8 rfl Try.underlying133 (by simp) Try.underlying5) rfl ?_
      refine p_val (e_move (v := .int _ _) rfl) rfl ?_
      refine p_val (e_shr32 8 rfl rfl (by decide)) rfl ?_
      refine p_val (e_conv8 rfl Try.underlying133 (by simp) Try.underlying5) rfl ?_
      refine p_val (e_move (v := .int _ _) rfl) rfl ?_
      refine p_val (e_conv8 rfl Try.underlying133 (by simp) Try.underlying5) rfl ?_
      refine p_val (e_ix_arr rfl rfl Try.underlying29 sz5 (by omega)) rfl ?_
      refine p_does (d_store1 (v := .int _ _) S 0 rfl rfl rfl sz5 rfl rfl (by simp [length_outB]; omega)) rfl ?_
      intro _ w S
      refine p_val (e_ix_arr rfl rfl Try.underlying29 sz5 (by omega)) rfl ?_
      refine p_does (d_store1 (v := .int _ _) S 0 rfl rfl rfl sz5 rfl rfl (by simp [length_outB]; omega)) rfl ?_
      intro _ w S
      refine p_val (e_ix_arr rfl rfl Try.underlying29 sz5 (by omega)) rfl ?_
      refine p_does (d_store1 (v := .int _ _) S 0 rfl rfl rfl sz5 rfl rfl (by simp [length_outB]; omega)) rfl ?_
      intro _ w S
      refine p_val (e_ix_arr rfl rfl Try.underlying29 sz5 (by omega)) rfl ?_
      refine p_does (d_store1 (v := .int _ _) S 0 rfl rfl rfl sz5 rfl rfl (by simp [length_outB]; omega)) rfl ?_
      intro _ w S
      refine p_nil (x_in (x_then (s_plain ?_)))
      refine p_val (e_add64 rfl rfl (by omega)) rfl ?_
      refine p_val (e_move (v := .int _ _) rfl) rfl ?_
      refine p_nil ?_
      refine x_round (q + 1) _ rfl ⟨_, upds_eq ⟨rfl, rfl, rfl, rfl, trivial⟩, by omega, S.asEx (outB_step (s8 (hashes (pad l) g0)) q rfl _ _ _ _ _ _ _ _ (by omega) (by omega) (by omega) (by omega) rfl rfl rfl rfl)⟩ (by omega)
    · refine s_exit (x_then_exit (x_then_exit (x_in_same (x_then (s_seq (s_plain ?_))))))
      refine p_val (e_loadN (cs := bv (outB (s8 (hashes (pad l) g0)) q)) rfl ag29 sz29 (by simp [length_outB]) (fun j u hu => (S.cell 0 rfl rfl _).trans (by simpa using hu))) rfl ?_
      refine p_does (d_storeW S 1 rfl rfl (bv_one _) sz29 (by simp [length_outB]) rfl rfl (by rfl)) rfl ?_
      intro _ w S
      refine p_nil (x_then (s_ret ?_))
      exact postC Try.results80 S 1 rfl rfl rfl ag29 sz29 (by simp [length_outB]) ⟨by obtain rfl : q = 8 := (by omega); rw [sumOf, show (pad l).length / 64 = g0 by omega], S.to_below⟩
end Go.Proofs.Ytdhfiamgmokfbaa

/- Sums of parts. It proves no statement by itself. -/
set_option linter.unusedSimpArgs false
set_option linter.unusedVariables false
set_option maxRecDepth 100000
set_option maxHeartbeats 1000000
namespace Go.Proofs.Ytdhfiamgmokfbaa
open Go Go.RowKit E
theorem join_calls (w0 : World) (tag : Nat) (A : Option Addr) (c0 : Nat) (ls : List (List Nat)) (R : Parts w0 A ls) (hl : (joinB tag ls ls.length).length ≤ 1099511627776) (hn : ls.length ≤ 1000000) :
    Ret Try.prog 19 [.int .u8 (tag : Int), .slice A ls.length c0] w0 fun v w' => v = .agg (bv (join tag ls)).toArray ∧ Below w0.heap.size w0 w' := by
  obtain ⟨vs, RA, hvs⟩ := R
  refine enter Try.func19 rfl Try.ntmps19 (Nat.le_of_ble_eq_true rfl) ?_
  have S := St.init w0
  refine s_seq (s_plain ?_)
  refine p_does (d_allocA S zv29) rfl ?_
  rintro _ w ⟨b1, rfl, S⟩
  refine p_nil (x_then (s_seq (s_plain ?_)))
  refine p_val (e_move (v := .int _ _) rfl) rfl ?_
  refine p_does (d_litB S Try.underlying33 sz5 zv5 rfl (l := [_]) rfl rfl (by decide)) rfl ?_
  rintro _ w ⟨b2, rfl, S⟩
  refine p_val (e_assign (v := .slice _ _ _) rfl) rfl ?_
  refine p_nil (x_then (s_seq (s_seq (s_plain ?_))))
  refine p_val (e_move (v := .slice _ _ _) rfl) rfl ?_
  refine p_val (e_len rfl Try.underlying90) rfl ?_
  refine p_val (e_move (v := .int _ _) rfl) rfl ?_
  refine p_nil (x_then (s_block ?_))
  refine s_loop (α := Nat) (fun g f' w' => ∃ u k c m, f' = upds u [(4, .pointer (some ⟨b1, 0, none⟩)), (5, .slice (at_ k) m c), (11, .slice A ls.length c0), (12, .int .i64 (ls.length : Int)), (13, .int .i64 (g : Int))] ∧ g ≤ ls.length ∧ m = (joinB tag ls g).length ∧ St w0 w' [] [k, some b1] [Rw 5 1 m c (bv (joinB tag ls g)), Ex zl29.toArray 29]) (fun g => ls.length - g) (0) (⟨_, _, _, _, upds_eq ⟨rfl, rfl, rfl, rfl, rfl, trivial⟩, by omega, rfl, S⟩) ?_
  rintro g f w ⟨u, k, c, m, rfl, hg, hm, S⟩
  refine s_seq (s_plain ?_)
  refine p_val (e_lss rfl rfl) rfl ?_
  refine p_nil (x_then (s_seq ?_))
  refine s_cond rfl (fun hc => ?_) (fun hc => ?_)
  · refine s_skip (x_then (s_seq (s_block (s_seq (s_plain ?_)))))
    obtain ⟨ad, rfl⟩ := RA.some_ (by rw [RA.1]; omega)
    obtain ⟨v, hv⟩ : ∃ v, vs[g]? = some v := ⟨_, List.getElem?_eq_getElem (by rw [RA.1]; omega)⟩
    obtain ⟨Ai, ci, rfl, Ri⟩ := hvs g v hv
    have hb := joinB_mono tag ls (m := g + 1) (n := ls.length) (by omega)
    simp only [joinB, List.length_append, len4, List.length_cons, List.length_nil] at hb
    refine p_val (e_ix_sl rfl rfl Try.underlying90 sz33 (by omega)) rfl ?_
    refine p_val (e_load rfl ag33 ((S.rdOld RA rfl).cell1 hv)) rfl ?_
    refine p_val (e_assign (v := .slice _ _ _) rfl) rfl ?_
    refine p_nil (x_then (s_seq (s_plain ?_)))
    refine p_val (e_move (v := .slice _ _ _) rfl) rfl ?_
    refine p_val (e_len rfl Try.underlying33) rfl ?_
    refine p_val (e_assign (v := .int _ _) rfl) rfl ?_
    refine p_nil (x_then (s_seq (s_plain ?_)))
    refine p_val (e_move (v := .slice _ _ _) rfl) rfl ?_
    refine p_val (e_move (v := .int _ _) rfl) rfl ?_
    refine p_val (e_shr64 24 rfl rfl (by decide)) rfl ?_
    refine p_val (e_conv8 rfl Try.underlying3 (by simp) Try.underlying5) rfl ?_
    refine p_val (e_move (v := .int _ _) rfl) rfl ?_
    refine p_val (e_shr64 16 rfl rfl (by decide)) rfl ?_
    refine p_val (e_conv8 rfl Try.underlying3 (by simp) Try.underlying5) rfl ?_
    refine p_val (e_move (v := .int _ _) rfl) rfl ?_
    refine p_val (e_shr64 8 rfl rfl (by decide)) rfl ?_
    refine p_val (e_conv8 rfl Try.underlying3 (by simp) Try.underlying5) rfl ?_
    refine p_val (e_move (v := .int _ _) rfl) rfl ?_
    refine p_val (e_conv8 rfl Try.underlying3 (by simp) Try.underlying5) rfl ?_
    refine p_does (d_litB S Try.underlying33 sz5 zv5 rfl (l := [_, _, _, _]) rfl rfl (by decide)) rfl ?_
    rintro _ w ⟨b5, rfl, S⟩
    refine p_does (d_append S 1 rfl rfl Try.underlying33 el5 rfl rfl (S.rdRw 0 rfl rfl) (bv_one _) (by omega) (by unfold maxLen; omega)) rfl ?_
    rintro _ w ⟨k32, c32, rfl, S⟩
    refine p_val (e_assign (v := .slice _ _ _) rfl) rfl ?_
    refine p_nil (x_then (s_plain ?_))
    refine p_val (e_move (v := .slice _ _ _) rfl) rfl ?_
    refine p_val (e_move (v := .slice _ _ _) rfl) rfl ?_
    refine p_does (d_append S 1 rfl rfl Try.underlying33 el5 rfl rfl (S.rdOld Ri rfl) (bv_one _) (by omega) (by unfold maxLen; omega)) rfl ?_
    rintro _ w ⟨k35, c35, rfl, S⟩
    refine p_val (e_assign (v := .slice _ _ _) rfl) rfl ?_
    refine p_nil (x_in (x_then (s_plain ?_)))
    refine p_val (e_add64 rfl rfl (by omega)) rfl ?_
    refine p_val (e_move (v := .int _ _) rfl) rfl ?_
    refine p_nil ?_
    refine x_round (g + 1) _ rfl ⟨_, _, _, _, upds_eq ⟨rfl, rfl, rfl, rfl, rfl, trivial⟩, by omega, by simp [joinB, len4, hm]; omega, S.tail.asRw (by simp only [← bv_append]; rfl)⟩ (by omega)
  · subst hm
    obtain rfl : g = ls.length := (by omega)
    refine s_exit (x_then_exit (x_then_exit (x_in_same (x_then (s_seq (s_plain ?_))))))
    refine p_val (e_move (v := .slice _ _ _) rfl) rfl ?_
    refine p_does (d_call Try.func80 nm80 rfl rfl (of_calls _ (at_ k) c (joinB tag ls ls.length) (S.rdRw 0 rfl rfl) hl)) rfl ?_
    rintro _ w ⟨rfl, hB⟩
    have S := S.below hB
    refine p_does (d_storeW S 1 rfl rfl (bv_one _) sz29 (by simp [length_sumOf]) rfl rfl (by rfl)) rfl ?_
    intro _ w S
    refine p_nil (x_then (s_ret ?_))
    exact postC Try.results19 S 1 rfl rfl rfl ag29 sz29 (by simp [length_sumOf]) ⟨by unfold join; rfl, S.to_below⟩
theorem pair_calls (w0 : World) (tag : Nat) (a b : List Nat) (ha : a.length = 32) (hb : b.length = 32) :
    Ret Try.prog 85 [.int .u8 (tag : Int), .agg (bv a).toArray, .agg (bv b).toArray] w0 fun v w' => v = .agg (bv (join tag [a, b])).toArray ∧ Below w0.heap.size w0 w' := by
  refine enter Try.func85 rfl Try.ntmps85 (Nat.le_of_ble_eq_true rfl) ?_
  have S := St.init w0
  refine s_seq (s_plain ?_)
  refine p_does (d_boxA S rfl) rfl ?_
  rintro _ w ⟨b1, rfl, S⟩
  refine p_does (d_boxA S rfl) rfl ?_
  rintro _ w ⟨b2, rfl, S⟩
  refine p_does (d_allocA S zv29) rfl ?_
  rintro _ w ⟨b3, rfl, S⟩
  refine p_nil (x_then (s_seq ?_))
  refine s_draw [(true, 0), (true, 1), (true, 2), (false, 3), (false, 4), (false, 5)] (fun w' => True) mixed (by kernel_rfl) (by repeat (first | exact Calm.post _ _ _ | refine Calm.then ?_ _ | refine Calm.inB ?_ _)) ?_
  have S := S.drew
  have hS := trivial
  refine q_val (fun w hS => e_move (v := .int _ _) rfl) rfl hS ?_
  refine q_val (fun w hS => e_sl_arr rfl Try.underlying29 sz5) rfl hS ?_
  refine q_val (fun w hS => e_sl_arr rfl Try.underlying29 sz5) rfl hS ?_
  refine q_does (d_lit1 S Try.underlying90 sz33 zv33 rfl (vs := [.slice _ _ _, .slice _ _ _]) rfl rfl rfl (by decide)) rfl ?_
  rintro _ w ⟨b4, rfl, S⟩; refine ⟨trivial, ?_⟩
  refine q_does (d_call Try.func19 nm19 rfl rfl (join_calls _ tag _ _ [a, b] (Parts.two (S.rdRw 0 rfl rfl) (S.rdBytes 3 rfl rfl ha) (S.rdBytes 2 rfl rfl hb)) (by simp [joinB, len4, ha, hb]) (by simp))) rfl ?_
  rintro _ w ⟨rfl, hB⟩
  have S := S.below hB; refine ⟨trivial, ?_⟩
  refine q_does (d_storeW S 1 rfl rfl (bv_one _) sz29 (by simp [length_join]) rfl rfl (by rfl)) rfl ?_
  intro _ w S; refine ⟨trivial, ?_⟩
  refine q_nil (x_then (s_ret ?_))
  exact postC Try.results85 S 1 rfl rfl rfl ag29 sz29 (by simp [length_join]) ⟨rfl, S.to_below⟩
theorem hash_calls (w0 : World) (A : Option Addr) (c0 : Nat) (l : List Nat) (R : Rd w0 1 A l.length (bv l)) (hl : l.length ≤ 1099511620000) :
    Ret Try.prog 101 [.slice A l.length c0] w0 fun v w' => v = .agg (bv (join 31 [l])).toArray ∧ Below w0.heap.size w0 w' := by
  refine enter Try.func101 rfl Try.ntmps101 (Nat.le_of_ble_eq_true rfl) ?_
  have S := St.init w0
  refine s_seq (s_plain ?_)
  refine p_does (d_allocA S zv29) rfl ?_
  rintro _ w ⟨b1, rfl, S⟩
  refine p_nil (x_then (s_seq (s_plain ?_)))
  refine p_val (e_move (v := .slice _ _ _) rfl) rfl ?_
  refine p_does (d_lit1 S Try.underlying90 sz33 zv33 rfl (vs := [.slice _ _ _]) rfl rfl rfl (by decide)) rfl ?_
  rintro _ w ⟨b2, rfl, S⟩
  refine p_does (d_call Try.func19 nm19 rfl rfl (join_calls _ 31 _ _ [l] (Parts.one (S.rdRw 0 rfl rfl) (S.rdOld R rfl)) (by simp [joinB, len4]; omega) (by simp))) rfl ?_
  rintro _ w ⟨rfl, hB⟩
  have S := S.below hB
  refine p_does (d_storeW S 1 rfl rfl (bv_one _) sz29 (by simp [length_join]) rfl rfl (by rfl)) rfl ?_
  intro _ w S
  refine p_nil (x_then (s_ret ?_))
  exact postC Try.results101 S 1 rfl rfl rfl ag29 sz29 (by simp [length_join]) ⟨rfl, S.to_below⟩
end Go.Proofs.Ytdhfiamgmokfbaa
