/- Structs as rows of parts, elements of slices by an address that may be none, rows that are stored to. It proves no statement by itself. -/
import Derived.Test.YtdhfiamgmokfbaaMore4
set_option linter.unusedSimpArgs false
set_option linter.unusedVariables false
namespace Go.Proofs.Ytdhfiamgmokfbaa.E
open Go Go.RowKit
def cat (l : List (List Value)) : List Value := l.flatten
@[simp] theorem cat_nil : cat [] = [] := rfl
@[simp] theorem cat_cons (x : List Value) (l : List (List Value)) : cat (x :: l) = x ++ cat l := rfl
theorem cat_append (a b : List (List Value)) : cat (a ++ b) = cat a ++ cat b := by simp [cat]
theorem cat_split (l : List (List Value)) (i n : Nat) : cat l = cat (l.take i) ++ cat ((l.drop i).take n) ++ cat (l.drop (i + n)) := by
  have h1 : l = l.take i ++ ((l.drop i).take n ++ l.drop (i + n)) := by
    conv => lhs; rw [← List.take_append_drop i l, ← List.take_append_drop n (l.drop i), List.drop_drop]
  conv => lhs; rw [h1]
  rw [cat_append, cat_append, List.append_assoc]
theorem cat_at {l : List (List Value)} {i : Nat} {xs : List Value} (h : l[i]? = some xs) : cat l = cat (l.take i) ++ xs ++ cat (l.drop (i + 1)) := by
  have e := cat_split l i 1
  have h2 : (l.drop i).take 1 = [xs] := by
    rw [List.take_one, List.head?_drop, h]; rfl
  rw [h2] at e
  simpa using e
/-! one cell a value -/
def One (l : List Value) : Prop := ∀ u ∈ l, u.oneCell' = true
theorem One.nil : One [] := by simp [One]
theorem One.cons {v : Value} {l : List Value} (h : v.oneCell' = true) (hl : One l) : One (v :: l) := by
  intro u hu
  rcases List.mem_cons.1 hu with rfl | hu
  · exact h
  · exact hl u hu
theorem One.append {a b : List Value} (h : One a) (h' : One b) : One (a ++ b) := fun u hu => (List.mem_append.1 hu).elim (h u) (h' u)
theorem One.cat0 : One (cat []) := One.nil
theorem One.cat1 {a : List Value} {l : List (List Value)} (h : One a) (h' : One (cat l)) : One (cat (a :: l)) := h.append h'
theorem One.mem {l : List Value} (h : One l) : ∀ u ∈ l, u.oneCell' = true := h
theorem One.bv (l : List Nat) : One (bv l) := bv_one l
theorem One.sv (l : List (List Nat)) : One (sv l) := sv_one l
theorem One.iv (l : List Int) : One (iv l) := iv_one l
theorem One.flat {α : Type} {c : α → List Value} {xs : List α} (h : ∀ x ∈ xs, One (c x)) : One (xs.flatMap c) := by
  intro u hu
  obtain ⟨x, hx, hu⟩ := List.mem_flatMap.1 hu
  exact h x hx u hu

/-! ### Parts of structs that lie in a block of the call's own -/
section
variable {w0 w : World} {ex : List Nat} {ks : List (Option Nat)} {ps : List (Option Obj → Prop)}
theorem St.part (S : St w0 w ex ks ps) (j : Nat) {b : Nat} {l : List (List Value)} {t : TypeId} (hk : ks[j]? = some (some b)) (hp : ps[j]? = some (Ex (cat l).toArray t)) (i n : Nat) {off size : Nat} (ho : (cat (l.take i)).length = off) (hn : (cat ((l.drop i).take n)).length = size) :
    Rd w 1 (some ((⟨b, 0, none⟩ : Addr).add off)) size (cat ((l.drop i).take n)) :=
  S.rdChunk j hk hp off (ys := cat (l.take i)) (zs := cat (l.drop (i + n))) (by simpa using cat_split l i n) ho (by rw [hn, Nat.mul_one])
theorem St.part1 (S : St w0 w ex ks ps) (j : Nat) {b : Nat} {l : List (List Value)} {t : TypeId} (hk : ks[j]? = some (some b)) (hp : ps[j]? = some (Ex (cat l).toArray t)) (i : Nat) {xs : List Value} (hx : l[i]? = some xs) {off size : Nat} (ho : (cat (l.take i)).length = off) (hn : xs.length = size) :
    Rd w 1 (some ((⟨b, 0, none⟩ : Addr).add off)) size xs :=
  S.rdChunk j hk hp off (ys := cat (l.take i)) (zs := cat (l.drop (i + 1))) (by simpa using cat_at hx) ho (by rw [hn, Nat.mul_one])
/-- parts of what is read -/
theorem Rd.part {n : Nat} {A : Option Addr} {l : List (List Value)} (R : Rd w 1 A n (cat l)) (i m : Nat) {off size : Nat} (ho : (cat (l.take i)).length = off) (hn : (cat ((l.drop i).take m)).length = size) :
    Rd w 1 (A.map (·.add off)) size (cat ((l.drop i).take m)) := by
  refine ⟨by rw [hn, Nat.mul_one], fun j u hu => ?_⟩
  have hj := (List.getElem?_eq_some_iff.1 hu).1
  have h2 : (cat l)[off + j]? = some u := by
    rw [cat_split l i m, List.append_assoc, List.getElem?_append_right (by omega), List.getElem?_append_left (by omega), show off + j - (cat (l.take i)).length = j by omega]
    exact hu
  obtain ⟨ad, rfl, hc⟩ := R.2 _ _ h2
  exact ⟨_, rfl, by rw [add_add]; exact hc⟩
theorem Rd.part1 {n : Nat} {A : Option Addr} {l : List (List Value)} (R : Rd w 1 A n (cat l)) (i : Nat) {xs : List Value} (hx : l[i]? = some xs) {off size : Nat} (ho : (cat (l.take i)).length = off) (hn : xs.length = size) :
    Rd w 1 (A.map (·.add off)) size xs := by
  have h := R.part i 1 ho (size := size) (by rw [List.take_one, List.head?_drop, hx]; simpa using hn)
  rwa [List.take_one, List.head?_drop, hx, show cat (some xs).toList = xs by simp [Option.toList]] at h
/-- an element of a slice -/
theorem Rd.elemA {α : Type} {c : α → List Value} {s n : Nat} {A : Option Addr} {xs : List α} (R : Rd w s A n (xs.flatMap c)) (h : ∀ x ∈ xs, (c x).length = s) {i : Int} {x : α} (hx : xs[i.toNat]? = some x) : Rd w 1 (A.map fun a => a.add (i.toNat * s)) s (c x) := by
  refine ⟨by rw [h x (List.mem_of_getElem? hx), Nat.mul_one], fun j u hu => ?_⟩
  have hj : j < s := by
    have := (List.getElem?_eq_some_iff.1 hu).1
    rwa [h x (List.mem_of_getElem? hx)] at this
  have h2 : (xs.flatMap c)[i.toNat * s + j]? = some u := by rw [flatMap_at h hx hj]; exact hu
  obtain ⟨ad, rfl, hc⟩ := R.2 _ _ h2
  exact ⟨_, rfl, by rw [add_add]; exact hc⟩
theorem Rd.sumA {n : Nat} {A : Option Addr} {L : List (List Nat)} (R : Rd w 32 A n (sv L)) (hL : All32 L) {i : Int} (h : 0 ≤ i ∧ i < L.length) : Rd w 1 (A.map fun a => a.add (i.toNat * 32)) 32 (bv (L.getD i.toNat [])) :=
  Rd.elemA (c := bv) (s := 32) R (fun x hx => by rw [bv_length]; exact hL x hx) (by rw [List.getD_eq_getElem?_getD, List.getElem?_eq_getElem (by omega)]; rfl)
theorem Rd.ne {n s : Nat} {A : Option Addr} {xs : List Value} (R : Rd w s A n xs) (hs : 0 < s) (hn : 0 < n) : ∃ ad, A = some ad := R.some_ (by rw [R.1]; exact Nat.mul_pos hn hs)
end
section
variable {P : Program} {ρ : Operand → Value} {d : Option Tmp} {x y : Operand} {t ty yt : TypeId} {ps : String} {af : Array Edge} {g : Option (Nat × Bool)} {w w0 : World} {k : IntKind} {ex : List Nat} {ks : List (Option Nat)} {pp : List (Option Obj → Prop)}
/-- the address of an element of a slice that is read -/
theorem e_ixR {A : Option Addr} {i : Int} {n c s : Nat} {e : TypeId} {xs : List Value} (R : Rd w s A n xs) (hs0 : 0 < s) (hx : ρ x = .slice A n c) (hy : ρ y = .int k i) (hu : P.underlying t = some (.slice e)) (hs : Sz P e s) (h0 : 0 ≤ i ∧ i < n) :
    (execOp ρ { dst := d, op := .indexAddr t x y, type := ty, pos := ps, after := af, guard := g }).run P w = .ok (.value (.pointer (A.map fun a => a.add (i.toNat * s)))) w := by
  obtain ⟨ad, rfl⟩ := R.ne hs0 (by omega)
  exact e_ix_sl hx hy hu hs h0
/-- a field's address -/
theorem e_fieldR {A : Option Addr} {fs : Array Field} {i s n : Nat} {fd : Field} {xs : List Value} (R : Rd w 1 A n xs) (hn : 0 < n) (hx : ρ x = .pointer A) (hu : P.underlying t = some (.struct fs)) (hf : fs[i]? = some fd) (hs : Sz P fd.type s) (hs0 : ¬ s = 0) :
    (execOp ρ { dst := d, op := .fieldAddr t x i, type := ty, pos := ps, after := af, guard := g }).run P w = .ok (.value (.pointer (A.map (·.add fd.offset)))) w := by
  obtain ⟨ad, rfl⟩ := R.ne (by decide) hn
  exact e_field hx hu hf hs hs0
/-- loads -/
theorem e_loadR1 {A : Option Addr} {v : Value} (hx : ρ x = .pointer A) (ha : Ag P t false) (R : Rd w 1 A 1 [v]) :
    (execOp ρ { dst := d, op := .load t x, type := ty, pos := ps, after := af, guard := g }).run P w = .ok (.value v) w := by
  obtain ⟨ad, rfl⟩ := R.ne (by decide) (by decide)
  exact e_load hx ha (by have := R.cell (j := 0) (u := v) rfl; rwa [add_zero] at this)
theorem e_loadRA {A : Option Addr} {cs : List Value} {s : Nat} (hx : ρ x = .pointer A) (ha : Ag P t true) (hs : Sz P t s) (hs0 : 0 < s) (R : Rd w 1 A s cs) :
    (execOp ρ { dst := d, op := .load t x, type := ty, pos := ps, after := af, guard := g }).run P w = .ok (.value (.agg cs.toArray)) w := by
  obtain ⟨ad, rfl⟩ := R.ne (by decide) hs0
  exact e_loadN hx ha hs (by rw [R.1, Nat.mul_one]) R.loads
theorem e_loadR1i {A : Option Addr} {n : Nat} {xs : List Value} {i : Int} {v : Value} (hx : ρ x = .pointer (A.map fun a => a.add (i.toNat * 1))) (ha : Ag P t false) (R : Rd w 1 A n xs) (hv : xs[i.toNat]? = some v) :
    (execOp ρ { dst := d, op := .load t x, type := ty, pos := ps, after := af, guard := g }).run P w = .ok (.value v) w := by
  obtain ⟨ad, rfl, hc⟩ := R.2 _ _ hv
  exact e_load hx ha (by rw [Nat.mul_one]; exact hc)
theorem e_loadRb {A : Option Addr} {n : Nat} {l : List Nat} {i : Int} (hx : ρ x = .pointer (A.map fun a => a.add (i.toNat * 1))) (ha : Ag P t false) (R : Rd w 1 A n (bv l)) (hi : 0 ≤ i ∧ i < n) :
    (execOp ρ { dst := d, op := .load t x, type := ty, pos := ps, after := af, guard := g }).run P w = .ok (.value (.int .u8 (l.getD i.toNat 0 : Int))) w :=
  e_loadR1i hx ha R (bv_get (by have := R.1; rw [bv_length, Nat.mul_one] at this; omega))
theorem e_loadRi {A : Option Addr} {n : Nat} {l : List Int} {i : Int} (hx : ρ x = .pointer (A.map fun a => a.add (i.toNat * 1))) (ha : Ag P t false) (R : Rd w 1 A n (iv l)) (hi : 0 ≤ i ∧ i < n) :
    (execOp ρ { dst := d, op := .load t x, type := ty, pos := ps, after := af, guard := g }).run P w = .ok (.value (.int .i64 (l.getD i.toNat 0))) w :=
  e_loadR1i hx ha R (iv_get (by have := R.1; rw [iv_length, Nat.mul_one] at this; omega))
/-- a field of a block of its own -/
theorem e_loadF1 {b j i off : Nat} {l : List (List Value)} {e : TypeId} {v : Value} (hx : ρ x = .pointer (some ((⟨b, 0, none⟩ : Addr).add off))) (ha : Ag P t false) (S : St w0 w ex ks pp) (hk : ks[j]? = some (some b)) (hp : pp[j]? = some (Ex (cat l).toArray e)) (hl : l[i]? = some [v]) (ho : (cat (l.take i)).length = off) :
    (execOp ρ { dst := d, op := .load t x, type := ty, pos := ps, after := af, guard := g }).run P w = .ok (.value v) w :=
  e_loadR1 hx ha (S.part1 j hk hp i hl ho rfl)
theorem e_loadFA {b j i off s : Nat} {l : List (List Value)} {e : TypeId} {xs : List Value} (hx : ρ x = .pointer (some ((⟨b, 0, none⟩ : Addr).add off))) (ha : Ag P t true) (hs : Sz P t s) (hs0 : 0 < s) (S : St w0 w ex ks pp) (hk : ks[j]? = some (some b)) (hp : pp[j]? = some (Ex (cat l).toArray e)) (hl : l[i]? = some xs) (ho : (cat (l.take i)).length = off) (hn : xs.length = s) :
    (execOp ρ { dst := d, op := .load t x, type := ty, pos := ps, after := af, guard := g }).run P w = .ok (.value (.agg xs.toArray)) w :=
  e_loadRA hx ha hs hs0 (S.part1 j hk hp i hl ho hn)
theorem e_loadFS {b j i n off s : Nat} {l : List (List Value)} {e : TypeId} (hx : ρ x = .pointer (some ((⟨b, 0, none⟩ : Addr).add off))) (ha : Ag P t true) (hs : Sz P t s) (hs0 : 0 < s) (S : St w0 w ex ks pp) (hk : ks[j]? = some (some b)) (hp : pp[j]? = some (Ex (cat l).toArray e)) (ho : (cat (l.take i)).length = off) (hn : (cat ((l.drop i).take n)).length = s) :
    (execOp ρ { dst := d, op := .load t x, type := ty, pos := ps, after := af, guard := g }).run P w = .ok (.value (.agg (cat ((l.drop i).take n)).toArray)) w :=
  e_loadRA hx ha hs hs0 (S.part j hk hp i n ho hn)
/-- the whole of a block of its own -/
theorem e_loadW {bl s : Nat} {cs : List Value} {e : TypeId} (j : Nat) (hx : ρ x = .pointer (some ⟨bl, 0, none⟩)) (ha : Ag P t true) (hs : Sz P t s) (S : St w0 w ex ks pp) (hk : ks[j]? = some (some bl)) (hp : pp[j]? = some (Ex cs.toArray e)) (hl : cs.length = s) :
    (execOp ρ { dst := d, op := .load t x, type := ty, pos := ps, after := af, guard := g }).run P w = .ok (.value (.agg cs.toArray)) w :=
  e_loadEx hx ha hs S j hk hp (by simpa using hl)
/-- stores to fields -/
theorem seg3 (a b c v : List Value) : (a ++ b ++ c).take a.length ++ v ++ (a ++ b ++ c).drop (a.length + b.length) = a ++ v ++ c := by
  rw [List.append_assoc a b c, List.take_left, ← List.drop_drop, List.drop_left, List.drop_left]
theorem cat_set {l : List (List Value)} {i : Nat} {xs vs : List Value} (h : l[i]? = some xs) (hv : vs.length = xs.length) :
    ((cat l).toArray.toList.take (cat (l.take i)).length ++ vs ++ (cat l).toArray.toList.drop ((cat (l.take i)).length + vs.length)).toArray = (cat (l.set i vs)).toArray := by
  have e1 := cat_at h
  have hi := (List.getElem?_eq_some_iff.1 h).1
  have e2 : l.set i vs = l.take i ++ vs :: l.drop (i + 1) := List.set_eq_take_append_cons_drop.trans (if_pos hi)
  congr 1
  show (cat l).take _ ++ vs ++ (cat l).drop _ = _
  rw [e2, cat_append, cat_cons, hv, e1, seg3, List.append_assoc]
theorem d_storeF1 (S : St w0 w ex ks pp) (j i : Nat) {b off : Nat} {l : List (List Value)} {e : TypeId} {u v : Value} (hx : ρ x = .pointer (some ((⟨b, 0, none⟩ : Addr).add off))) (hy : ρ y = v) (h1 : v.oneCell' = true) (hs : Sz P t 1)
    (hk : ks[j]? = some (some b)) (hp : pp[j]? = some (Ex (cat l).toArray e)) (hl : l[i]? = some [u]) (ho : (cat (l.take i)).length = off) :
    Does P ρ { dst := d, op := .store t x y, type := ty, pos := ps, after := af, guard := g } w fun _ w' => St w0 w' ex ks (pp.set j (Ex (cat (l.set i [v])).toArray e)) := by
  have hlen : off < (cat l).length := by rw [cat_at hl]; simp; omega
  have h := d_store1 (P := P) (ρ := ρ) (d := d) (x := x) (y := y) (t := t) (ty := ty) (ps := ps) (af := af) (g := g) S j hx hy h1 hs hk hp (m := off) (by simpa using hlen)
  have e2 : (cat l).toArray.setIfInBounds off v = (cat (l.set i [v])).toArray := by
    rw [← cat_set hl (vs := [v]) rfl, ho]
    apply Array.ext'
    rw [Array.toList_setIfInBounds]
    simp only [List.toList_toArray]
    rw [List.set_eq_take_append_cons_drop, if_pos hlen]
    simp
  rwa [e2] at h
theorem d_storeFA (S : St w0 w ex ks pp) (j i : Nat) {b off s : Nat} {l : List (List Value)} {e : TypeId} {us vs : List Value} (hx : ρ x = .pointer (some ((⟨b, 0, none⟩ : Addr).add off))) (hy : ρ y = .agg vs.toArray) (h1 : ∀ v ∈ vs, v.oneCell' = true) (hs : Sz P t s) (hv : vs.length = s)
    (hk : ks[j]? = some (some b)) (hp : pp[j]? = some (Ex (cat l).toArray e)) (hl : l[i]? = some us) (hul : us.length = s) (ho : (cat (l.take i)).length = off) :
    Does P ρ { dst := d, op := .store t x y, type := ty, pos := ps, after := af, guard := g } w fun _ w' => St w0 w' ex ks (pp.set j (Ex (cat (l.set i vs)).toArray e)) := by
  have hlen : off + s ≤ (cat l).toArray.size := by rw [List.size_toArray, cat_at hl]; simp; omega
  have h := d_storeN (P := P) (ρ := ρ) (d := d) (x := x) (y := y) (t := t) (ty := ty) (ps := ps) (af := af) (g := g) S j (m := off) hx hy h1 hs hv hk hp hlen
  rw [← hv, ← ho, cat_set hl (by omega)] at h
  exact h
/-- a row of the call's own is stored to -/
theorem d_storeRwN {e : TypeId} {size n cap : Nat} {xs vs : List Value} {k0 : Option Nat} {i : Int} (S : St w0 w ex ks pp) (j : Nat) (hk : ks[j]? = some k0) (hp : pp[j]? = some (Rw e size n cap xs)) (hx : ρ x = .pointer ((at_ k0).map fun a => a.add (i.toNat * size))) (hy : ρ y = .agg vs.toArray) (h1 : ∀ v ∈ vs, v.oneCell' = true) (hs : Sz P t size) (hv : vs.length = size) (hi : 0 ≤ i ∧ i < n) (hsz : 0 < size) :
    Does P ρ { dst := d, op := .store t x y, type := ty, pos := ps, after := af, guard := g } w fun _ w' => St w0 w' ex ks (pp.set j (Rw e size n cap (xs.take (i.toNat * size) ++ vs ++ xs.drop (i.toNat * size + size)))) := by
  obtain ⟨hxl, h⟩ := S.own j _ _ hk hp
  have hin : (i.toNat + 1) * size ≤ n * size := Nat.mul_le_mul_right _ (by omega)
  rw [Nat.add_mul, Nat.one_mul] at hin
  rcases h with ⟨_, h0, _⟩ | ⟨cur, hc, hnc, hcm, hcs, ht⟩
  · omega
  · cases k0 with
    | none => cases hc
    | some b =>
      have hb : w.heap[b]? = some (.cells cur e (0, 0)) := hc
      have hnc' : n * size ≤ cap * size := Nat.mul_le_mul_right _ hnc
      have hfit : i.toNat * size + 0 + vs.length ≤ cur.size := by omega
      have hr := run_storeCells_at P b (i.toNat * size) e vs 0 cur w hb hfit h1
      have hs' := hs w
      simp only [Nat.add_zero] at hr
      refine .inr (.inl ⟨w.setRow b (cur.toList.take (i.toNat * size) ++ vs ++ cur.toList.drop (i.toNat * size + vs.length)).toArray, ?_, S.setRow j (Rw _ _ _ _ _) hk hb ?_⟩)
      · simp only [at_, Option.map_some, add_lit] at hx
        simp [execOp, hx, hy, Instr.storeAt, Instr.sureAddr, storeVar, hs', Value.cells, hv, hr]
      · have hcl : cur.toList.length = cap * size := by simpa using hcs
        refine ⟨?_, .inr ⟨_, rfl, hnc, hcm, ?_, ?_⟩⟩
        · simp only [List.length_append, List.length_take, List.length_drop]; omega
        · simp only [List.size_toArray, List.length_append, List.length_take, List.length_drop]; omega
        · rw [← ht]
          simp only [List.toList_toArray]
          rw [List.take_append, List.take_append, List.take_take, List.drop_take]
          simp only [List.length_append, List.length_take, List.take_take]
          rw [show min (n * size) (i.toNat * size) = i.toNat * size by omega, show min (i.toNat * size) (n * size) = i.toNat * size by omega, show min (i.toNat * size) cur.toList.length = i.toNat * size by omega, hv, List.take_of_length_le (show vs.length ≤ n * size - i.toNat * size by omega), show n * size - (i.toNat * size + size) = n * size - (i.toNat * size + size) by rfl]
theorem d_storeRw1 {e : TypeId} {n cap : Nat} {xs : List Value} {v : Value} {k0 : Option Nat} {i : Int} (S : St w0 w ex ks pp) (j : Nat) (hk : ks[j]? = some k0) (hp : pp[j]? = some (Rw e 1 n cap xs)) (hx : ρ x = .pointer ((at_ k0).map fun a => a.add (i.toNat * 1))) (hy : ρ y = v) (h1 : v.oneCell' = true) (hs : Sz P t 1) (hi : 0 ≤ i ∧ i < n) :
    Does P ρ { dst := d, op := .store t x y, type := ty, pos := ps, after := af, guard := g } w fun _ w' => St w0 w' ex ks (pp.set j (Rw e 1 n cap (xs.set i.toNat v))) := by
  obtain ⟨hxl, h⟩ := S.own j _ _ hk hp
  rcases h with ⟨_, h0, _⟩ | ⟨cur, hc, hnc, hcm, hcs, ht⟩
  · omega
  · cases k0 with
    | none => cases hc
    | some b =>
      have hb : w.heap[b]? = some (.cells cur e (0, 0)) := hc
      have hcv : v.cells = #[v] := by cases v <;> simp_all [Value.oneCell', Value.cells]
      have hfit : i.toNat + 0 + [v].length ≤ cur.size := by simp; omega
      have hr := run_storeCells_at P b i.toNat e [v] 0 cur w hb hfit (by intro u hu; rw [List.mem_singleton.1 hu]; exact h1)
      have hs' := hs w
      simp only [Nat.add_zero] at hr
      refine .inr (.inl ⟨w.setRow b (cur.toList.take i.toNat ++ [v] ++ cur.toList.drop (i.toNat + [v].length)).toArray, ?_, S.setRow j (Rw _ _ _ _ _) hk hb ?_⟩)
      · simp only [at_, Option.map_some, add_lit, Nat.mul_one] at hx
        simp [execOp, hx, hy, Instr.storeAt, Instr.sureAddr, storeVar, hs', hcv] at hr ⊢
        first | done | simp [hr]
      · have hcl : cur.toList.length = cap * 1 := by simpa using hcs
        have e0 : cur.toList.take i.toNat ++ [v] ++ cur.toList.drop (i.toNat + [v].length) = cur.toList.set i.toNat v := by
          rw [List.set_eq_take_append_cons_drop, if_pos (by omega)]; simp
        rw [e0]
        refine ⟨by simpa using hxl, .inr ⟨_, rfl, hnc, hcm, by simpa using hcs, ?_⟩⟩
        rw [← ht]
        simp only [List.toList_toArray, Nat.mul_one]
        rw [List.take_set]
end
/-! ### Structs that are put together -/
theorem fill_cat {place : Nat → Option (Nat × Nat)} {l l' : List (List Value)} {i off size : Nat} {v : Value} {rest : List (Nat × Value)} (a n : Nat) (hp : place i = some (off, size)) (hv : v.cells.toList = cat l') (hl' : (cat l').length = size) (ho : (cat (l.take a)).length = off) (hn : (cat ((l.drop a).take n)).length = size) :
    Instr.fill place (cat l).toArray ((i, v) :: rest) = Instr.fill place (cat (l.take a ++ l' ++ l.drop (a + n))).toArray rest := by
  have hsp := cat_split l a n
  have hvs : v.cells.size = size := by rw [← Array.length_toList, hv, hl']
  have hlen : (cat l).length = off + size + (cat (l.drop (a + n))).length := by rw [hsp]; simp only [List.length_append]; omega
  simp only [Instr.fill, hp]
  rw [if_neg (by simp [hvs, hlen])]
  congr 1
  have hf := foldl_set #[] off v.cells.toList 0 (cat l).toArray (by simp [hv, hl', hlen])
  simp only [Nat.add_zero] at hf
  have hz : v.cells.zipIdx.foldl (fun (cs : Array Value) (x : Value × Nat) => cs.setIfInBounds (off + x.2) x.1) (cat l).toArray = ((cat l).toArray.toList.take off ++ v.cells.toList ++ (cat l).toArray.toList.drop (off + v.cells.toList.length)).toArray := by
    rw [← hf, ← Array.foldl_toList, Array.toList_zipIdx]
  rw [hz]
  congr 1
  rw [cat_append, cat_append, hv, hl']
  show (cat l).take off ++ cat l' ++ (cat l).drop (off + size) = _
  rw [hsp, ← ho, ← hn, seg3]
/-- how a struct's type is built: its zero's parts, its fields' places -/
def Bt (P : Program) (t : TypeId) (zc : List (List Value)) (pl : List (Nat × Nat)) : Prop := ∀ parts, P.built t parts = Instr.fill (pl.toArray[·]?) (cat zc).toArray parts
theorem bt_of {P : Program} {t : TypeId} {zc : List (List Value)} {pl : List (Nat × Nat)} {fs : Array Field} (hz : (P.info? t).map (·.zero.map (·.cells)) = some (some (cat zc).toArray)) (hu : P.underlying t = some (.struct fs))
    (hp : fs.toList.mapM (fun f => (P.info? f.type).map fun i => (f.offset, i.size)) = some pl) : Bt P t zc pl := by
  intro parts
  obtain ⟨it, hi, h1⟩ := Option.map_eq_some_iff.1 hz
  obtain ⟨z, hz1, h2⟩ := Option.map_eq_some_iff.1 h1
  unfold Program.built
  simp only [hi, hu, hz1, hp, h2]
section
variable {P : Program} {ρ : Operand → Value} {d : Option Tmp} {x : Operand} {t ty : TypeId} {ps : String} {af : Array Edge} {g : Option (Nat × Bool)} {w : World}
theorem e_buildS {parts : List (Nat × Operand)} {zc l : List (List Value)} {pl : List (Nat × Nat)} (hb : Bt P t zc pl) (h : Instr.fill (pl.toArray[·]?) (cat zc).toArray (parts.map fun (q : Nat × Operand) => (q.1, ρ q.2)) = some (cat l).toArray) :
    (execOp ρ { dst := d, op := .build t parts.toArray, type := ty, pos := ps, after := af, guard := g }).run P w = .ok (.value (.agg (cat l).toArray)) w :=
  e_build ((hb _).trans (by rw [← h]; congr 1; simp))
theorem e_buildS0 {zc : List (List Value)} {pl : List (Nat × Nat)} (hb : Bt P t zc pl) :
    (execOp ρ { dst := d, op := .build t #[], type := ty, pos := ps, after := af, guard := g }).run P w = .ok (.value (.agg (cat zc).toArray)) w :=
  e_build ((hb _).trans (by simp [Instr.fill]))
/-- fields of values -/
theorem e_fieldV1 {fs : Array Field} {i a : Nat} {fd : Field} {l : List (List Value)} {v : Value} (hx : ρ x = .agg (cat l).toArray) (hu : P.underlying t = some (.struct fs)) (hf : fs[i]? = some fd) (ha : Ag P fd.type false) (hl : l[a]? = some [v]) (ho : (cat (l.take a)).length = fd.offset) :
    (execOp ρ { dst := d, op := .field t x i, type := ty, pos := ps, after := af, guard := g }).run P w = .ok (.value v) w := by
  have ha' := ha w
  have h2 : (cat l)[fd.offset]? = some v := by
    rw [cat_at hl, List.append_assoc, List.getElem?_append_right (by omega), show fd.offset - (cat (l.take a)).length = 0 by omega]; rfl
  simp [execOp, hx, Instr.field, run_underlying hu, hf, asAgg, part, ha', h2]
theorem e_fieldVS {fs : Array Field} {i a n s : Nat} {fd : Field} {l : List (List Value)} (hx : ρ x = .agg (cat l).toArray) (hu : P.underlying t = some (.struct fs)) (hf : fs[i]? = some fd) (ha : Ag P fd.type true) (hs : Sz P fd.type s) (ho : (cat (l.take a)).length = fd.offset) (hn : (cat ((l.drop a).take n)).length = s) :
    (execOp ρ { dst := d, op := .field t x i, type := ty, pos := ps, after := af, guard := g }).run P w = .ok (.value (.agg (cat ((l.drop a).take n)).toArray)) w := by
  have ha' := ha w
  have hs' := hs w
  have h2 : (cat l).toArray.extract fd.offset (fd.offset + s) = (cat ((l.drop a).take n)).toArray := by
    apply Array.ext'
    rw [Array.toList_extract, List.extract_eq_take_drop]
    show ((cat l).drop fd.offset).take _ = _
    rw [cat_split l a n, show fd.offset + s - fd.offset = s by omega, List.append_assoc, ← ho, List.drop_left, ← hn, List.take_left]
  have h3 : (part fd.type (cat l).toArray fd.offset).run P w = .ok (.agg (cat ((l.drop a).take n)).toArray) w := by
    unfold part
    simp only [Sem.run_bind, ha', hs', Result.andThen_ok, if_true, Sem.run_pure, h2]
  simp only [execOp, hx, Instr.field, Sem.run_bind, run_underlying hu, Result.andThen_ok, hf, asAgg, Sem.run_pure, h3]
theorem e_fieldVA {fs : Array Field} {i a s : Nat} {fd : Field} {l : List (List Value)} {xs : List Value} (hx : ρ x = .agg (cat l).toArray) (hu : P.underlying t = some (.struct fs)) (hf : fs[i]? = some fd) (ha : Ag P fd.type true) (hs : Sz P fd.type s) (hl : l[a]? = some xs) (ho : (cat (l.take a)).length = fd.offset) (hn : xs.length = s) :
    (execOp ρ { dst := d, op := .field t x i, type := ty, pos := ps, after := af, guard := g }).run P w = .ok (.value (.agg xs.toArray)) w := by
  have h1 : cat ((l.drop a).take 1) = xs := by rw [List.take_one, List.head?_drop, hl]; simp [Option.toList]
  have := e_fieldVS (P := P) (ρ := ρ) (d := d) (x := x) (t := t) (ty := ty) (ps := ps) (af := af) (g := g) (w := w) (n := 1) hx hu hf ha hs ho (by rw [h1]; exact hn)
  rwa [h1] at this
end
/-! ### Loops and cuts that keep what is not spoken of -/
section
variable {P : Program} {Q : Exit → Act → World → Prop} {n : Nat} {f : Nat → Value} {w0 w : World} {c : Code} {ex : List Nat} {ks : List (Option Nat)} {ps : List (Option Obj → Prop)}
theorem s_loopK {α : Type} (keep : List (Nat × Value)) (hk : Holds f keep) (S : St w0 w ex ks ps) (J : List (Nat × Value) → List (Option Nat) → List (Option Obj → Prop) → α → (Nat → Value) → World → Prop) (μ : α → Nat) (g0 : α) (h0 : J keep ks ps g0 f w)
    (round : ∀ (g : α) (f : Nat → Value) (w : World), J keep ks ps g f w → c.wp P (Exit.then (fun a' w' => ∃ (g' : α) (f' : Nat → Value), a' = F n f' ∧ J keep ks ps g' f' w' ∧ μ g' < μ g) Q) (F n f) w) :
    (Code.loop c).wp P Q (F n f) w := s_loop (J keep ks ps) μ g0 h0 round
theorem s_cutK (keep : List (Nat × Value)) (hk : Holds f keep) (S : St w0 w ex ks ps) (M : List (Nat × Value) → List (Option Nat) → List (Option Obj → Prop) → (Nat → Value) → World → Prop) (h1 : c.wp P (Exit.then (fun a' w' => ∃ f', a' = F n f' ∧ M keep ks ps f' w') Q) (F n f) w)
    (h2 : ∀ f' w', M keep ks ps f' w' → Q .normal (F n f') w') : c.wp P Q (F n f) w := s_cut (fun _ f' w' => M keep ks ps f' w') h1 h2
/-- a guarded region: the frame is what it was, but for what it wrote -/
theorem s_cutG (S : St w0 w ex ks ps) (M : List (Option Nat) → List (Option Obj → Prop) → (Nat → Value) → (Nat → Value) → World → Prop) (h1 : c.wp P (Exit.then (fun a' w' => ∃ f', a' = F n f' ∧ M ks ps f f' w') Q) (F n f) w)
    (h2 : ∀ f' w', M ks ps f f' w' → Q .normal (F n f') w') : c.wp P Q (F n f) w := s_cut (fun f f' w' => M ks ps f f' w') h1 h2
variable {id : Nat} {l : List Oper}
theorem s_drawK (hS : St w0 w ex ks ps) (order : List (Bool × Nat)) (Z tl : List Nat) (hm : P.follows .mixedOrders = true)
    (hB : (Region.noSelect l.toArray && orderB l.toArray Z tl order (Array.replicate l.length false) && order.length + tl.length == l.length) = true) (hQ : Calm Q)
    (h : St w0 w.drew ex ks ps → seqH P l.toArray Q (fun w' => St w0 w' ex ks ps) (wpList P l.toArray Q (pickL l.toArray tl)) (pick l.toArray order) (F n f) w.drew) : (Code.region id l.toArray true).wp P Q (F n f) w :=
  s_drawZ order Z tl (fun w' => St w0 w' ex ks ps) hm hB hQ (h hS.drew)
theorem s_drawTK (hS : St w0 w ex ks ps) (t : OT) (Z tl : List Nat) (hm : P.follows .mixedOrders = true)
    (hB : (Region.noSelect l.toArray && checkT l.toArray Z tl t false l.length (Array.replicate l.length false)) = true) (hQ : Calm Q)
    (h : St w0 w.drew ex ks ps → treeH P l.toArray Q (fun w' => St w0 w' ex ks ps) (wpList P l.toArray Q (pickL l.toArray tl)) t (F n f) w.drew) : (Code.region id l.toArray true).wp P Q (F n f) w :=
  s_drawT t Z tl (fun w' => St w0 w' ex ks ps) hm hB hQ (h hS.drew)
end
section
variable {P : Program} {ops : Array Oper} {Q : Exit → Act → World → Prop} {S : World → Prop} {N : Act → World → Prop} {w0 w : World} {a : Act} {ex : List Nat} {ks : List (Option Nat)} {ps : List (Option Obj → Prop)} {t : OT}
theorem t_reK (S0 : St w0 w ex ks ps) (h : ∀ w', St w0 w' ex ks ps → S w') (hk : St w0 w ex ks ps → treeH P ops Q (fun w' => St w0 w' ex ks ps) N t a w) : treeH P ops Q S N (.re t) a w := t_re h (hk S0)
end
/-! a guard that names an operation which was not done -/
section
variable {P : Program} {ops : Array Oper} {Q : Exit → Act → World → Prop} {S : World → Prop} {N : Act → World → Prop} {n : Nat} {f : Nat → Value} {w : World} {rest : List Oper} {rest' : List (Bool × Oper)} {j d : Nat} {oj : Oper} {want c : Bool}
variable {d0 : Option Tmp} {op0 : Op} {ty0 : TypeId} {ps0 : String} {af0 : Array Edge} {g0 : Option (Nat × Bool)}
theorem wanted_U {o : Oper} (hg : o.guard = some (j, want)) (hj : ops[j]? = some oj) (hd : oj.dst = some d) (hv : ev n f (.tmp d) = undef) : Region.wanted o (yielded ops (F n f).tmps) = false := by
  have h1 := F_getElem? n f d
  have hy : yielded ops (F n f).tmps j = none := by
    unfold yielded
    simp only [hj, hd, Option.bind_some]
    rw [h1]
    by_cases h : d < n
    · have hb : Nat.blt d n = true := by simpa [Nat.blt_eq] using h
      change (bif Nat.blt d n then f d else undef) = undef at hv
      rw [hb] at hv
      simp only [cond_true] at hv
      rw [if_pos h, hv]
      rfl
    · rw [if_neg h]
  unfold Region.wanted
  rw [hg]
  simp only [hy]
  rfl
theorem p_noU (hg : g0 = some (j, want)) (hj : ops[j]? = some oj) (hd : oj.dst = some d) (hv : ev n f (.tmp d) = undef) (h : wpList P ops Q rest (F n (updo f d0 undef)) w) : wpList P ops Q ({ dst := d0, op := op0, type := ty0, pos := ps0, after := af0, guard := g0 } :: rest) (F n f) w :=
  wpList_step fun K hK => by
    rw [wanted_U hg hj hd hv, if_neg (by simp)]
    exact hK _ _ (by rw [put_F]; exact h)
theorem q_noU (hg : g0 = some (j, want)) (hj : ops[j]? = some oj) (hd : oj.dst = some d) (hv : ev n f (.tmp d) = undef) (hS : S w) (h : seqH P ops Q S N rest' (F n (updo f d0 undef)) w) : seqH P ops Q S N ((c, { dst := d0, op := op0, type := ty0, pos := ps0, after := af0, guard := g0 }) :: rest') (F n f) w := by
  cases c with
  | true => exact ⟨undef, .inr ⟨by rw [wanted_U hg hj hd hv], rfl⟩, hS, by rw [put_F]; exact h⟩
  | false =>
    unfold seqH
    rw [wanted_U hg hj hd hv, if_neg (by simp)]
    exact ⟨hS, by rw [put_F]; exact h⟩
end
end Go.Proofs.Ytdhfiamgmokfbaa.E
