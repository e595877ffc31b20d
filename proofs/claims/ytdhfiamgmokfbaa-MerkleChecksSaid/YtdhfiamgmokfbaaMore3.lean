/- More laws for walks: calls that turn blocks which the caller has made; chunks of blocks; rows of sums. It proves no statement by itself. -/
import Derived.Test.YtdhfiamgmokfbaaMore2
set_option linter.unusedSimpArgs false
set_option linter.unusedVariables false
namespace Go.Proofs.Ytdhfiamgmokfbaa.E
open Go Go.RowKit
/-! ### A callee is handed blocks of the caller's own -/
def exOf (ks : List (Option Nat)) : List Nat := ks.filterMap id
theorem mem_exOf {ks : List (Option Nat)} {b : Nat} : b ∈ exOf ks ↔ some b ∈ ks := by simp [exOf]
section
variable {w0 w w' : World} {ex ex' : List Nat} {ks ks' : List (Option Nat)} {ps ps' : List (Option Obj → Prop)}
/-- what the caller has, as the callee sees it -/
theorem St.here (S : St w0 w ex ks ps) (σ : List Nat) (hσ : σ.Nodup) (hk : ∀ i ∈ σ, i < ks.length) (hp : ∀ i ∈ σ, i < ps.length) :
    St w w (exOf (σ.map fun i => ks.getD i none)) (σ.map fun i => ks.getD i none) (σ.map fun i => ps.getD i fun _ => True) := by
  have T := S.pick σ hσ hk hp
  exact ⟨rfl, rfl, rfl, Nat.le_refl _, fun _ _ _ => rfl, T.own, T.lt, fun b h => .inr (mem_exOf.2 h), T.nodup⟩
/-- 'pick', its side conditions by computing -/
theorem St.pk (S : St w0 w ex ks ps) (σ : List Nat) (h : (decide σ.Nodup && σ.all fun i => Nat.blt i ks.length && Nat.blt i ps.length) = true) :
    St w0 w ex (σ.map fun i => ks.getD i none) (σ.map fun i => ps.getD i fun _ => True) := by
  simp only [Bool.and_eq_true, decide_eq_true_eq, List.all_eq_true, Nat.blt_eq] at h
  exact S.pick σ h.1 (fun i hi => (h.2 i hi).1) fun i hi => (h.2 i hi).2
theorem St.hr (S : St w0 w ex ks ps) (σ : List Nat) (h : (decide σ.Nodup && σ.all fun i => Nat.blt i ks.length && Nat.blt i ps.length) = true) :
    St w w (exOf (σ.map fun i => ks.getD i none)) (σ.map fun i => ks.getD i none) (σ.map fun i => ps.getD i fun _ => True) := by
  simp only [Bool.and_eq_true, decide_eq_true_eq, List.all_eq_true, Nat.blt_eq] at h
  exact S.here σ h.1 (fun i hi => (h.2 i hi).1) fun i hi => (h.2 i hi).2
/-- the call is over -/
theorem St.call (S : St w0 w ex ks ps) (σ : List Nat) (T : St w w' (exOf (σ.map fun i => ks.getD i none)) ks' ps') (hl : ps'.length = ks'.length) :
    St w0 w' ex (ks' ++ E.blank none ks σ) (ps' ++ E.blank (fun _ => True) ps σ) := by
  refine S.sub T σ hl fun b hb => ?_
  obtain ⟨i, hi, e⟩ := List.mem_map.1 (mem_exOf.1 hb)
  refine ⟨i, hi, ?_⟩
  rw [List.getD_eq_getElem?_getD] at e
  cases h : ks[i]? with
  | none => rw [h] at e; cases e
  | some k => rw [h] at e; exact congrArg some e
theorem Rd.loads {n : Nat} {a : Addr} {xs : List Value} (h : Rd w 1 (some a) n xs) : ∀ (j : Nat) (u : Value), xs[j]? = some u → w.cell? (a.add j) = some u := fun j u hu => h.cell hu
/-- a part of a block of its own -/
theorem St.rdChunk (S : St w0 w ex ks ps) (i : Nat) {b : Nat} {cs : Array Value} {t : TypeId} (hk : ks[i]? = some (some b)) (hp : ps[i]? = some (Ex cs t)) (off : Nat) {size n : Nat} {xs ys zs : List Value} (hcs : cs.toList = ys ++ xs ++ zs) (hy : ys.length = off) (hn : xs.length = n * size) :
    Rd w size (some ((⟨b, 0, none⟩ : Addr).add off)) n xs := by
  refine ⟨hn, fun j u hu => ⟨_, rfl, ?_⟩⟩
  rw [add_add, S.cell i hk hp]
  have hj := (List.getElem?_eq_some_iff.1 hu).1
  rw [← Array.getElem?_toList, hcs, List.append_assoc, List.getElem?_append_right (by omega), List.getElem?_append_left (by omega), show off + j - ys.length = j by omega]
  exact hu
/-! ### Rows of sums -/
def sv (L : List (List Nat)) : List Value := L.flatMap bv
def All32 (L : List (List Nat)) : Prop := ∀ l ∈ L, l.length = 32
theorem sv_one (L : List (List Nat)) : ∀ u ∈ sv L, u.oneCell' = true := by
  intro u hu
  obtain ⟨l, _, h⟩ := List.mem_flatMap.1 hu
  exact bv_one l u h
theorem sv_append (A B : List (List Nat)) : sv (A ++ B) = sv A ++ sv B := by simp [sv]
theorem sv_single (l : List Nat) : sv [l] = bv l := by simp [sv]
theorem sv_length {L : List (List Nat)} (h : All32 L) : (sv L).length = L.length * 32 := by
  induction L with
  | nil => rfl
  | cons l L ih =>
    have h1 : l.length = 32 := h l (by simp)
    have h2 := ih fun x hx => h x (by simp [hx])
    simp only [sv, List.flatMap_cons, List.length_append, bv_length, List.length_cons] at h2 ⊢
    omega
theorem All32.append {A B : List (List Nat)} (h1 : All32 A) (h2 : All32 B) : All32 (A ++ B) := fun l h => (List.mem_append.1 h).elim (h1 l) (h2 l)
theorem All32.getD {L : List (List Nat)} (h : All32 L) {i : Nat} (hi : i < L.length) : (L.getD i []).length = 32 := by
  rw [List.getD_eq_getElem?_getD, List.getElem?_eq_getElem hi]
  exact h _ (List.getElem_mem hi)
/-- L's i-th sum, out of its cells -/
theorem sv_at {L : List (List Nat)} (h : All32 L) {i j : Nat} (hi : i < L.length) (hj : j < 32) : (sv L)[i * 32 + j]? = (bv (L.getD i []))[j]? := by
  induction L generalizing i with
  | nil => simp at hi
  | cons l L ih =>
    have h1 : l.length = 32 := h l (by simp)
    have h2 : All32 L := fun x hx => h x (by simp [hx])
    have e : sv (l :: L) = bv l ++ sv L := by simp [sv]
    rw [e]
    cases i with
    | zero => rw [List.getElem?_append_left (by simp [h1]; omega)]; simp
    | succ i =>
      rw [List.getElem?_append_right (by simp [h1]; omega), bv_length, h1, show (i + 1) * 32 + j - 32 = i * 32 + j by omega, ih h2 (by simpa using hi)]
      simp
theorem Rd.sum {n : Nat} {ad : Addr} {L : List (List Nat)} (R : Rd w 32 (some ad) n (sv L)) (hL : All32 L) {i : Int} (h : 0 ≤ i ∧ i < L.length) : ∀ (j : Nat) (u : Value), (bv (L.getD i.toNat []))[j]? = some u → w.cell? ((ad.add (i.toNat * 32)).add j) = some u := by
  intro j u hu
  have hj : j < 32 := by
    have := (List.getElem?_eq_some_iff.1 hu).1
    rw [bv_length, hL.getD (by omega)] at this
    exact this
  rw [add_add]
  exact R.cell (by rw [sv_at hL (by omega) hj]; exact hu)
theorem Rd.sumRd {n : Nat} {ad : Addr} {L : List (List Nat)} (R : Rd w 32 (some ad) n (sv L)) (hL : All32 L) {i : Int} (h : 0 ≤ i ∧ i < L.length) : Rd w 1 (some (ad.add (i.toNat * 32))) 32 (bv (L.getD i.toNat [])) :=
  ⟨by rw [bv_length, hL.getD (by omega)], fun j u hu => ⟨_, rfl, R.sum hL h j u hu⟩⟩
theorem St.rwSome (S : St w0 w ex ks ps) (i : Nat) {k : Option Nat} {e : TypeId} {size n cap : Nat} {xs : List Value} (hk : ks[i]? = some k) (hp : ps[i]? = some (Rw e size n cap xs)) (h : 0 < n) : ∃ b, k = some b := by
  obtain ⟨_, h'⟩ := S.own i _ _ hk hp
  cases k with
  | none =>
    rcases h' with ⟨_, h1, _⟩ | ⟨_, h1, _⟩
    · omega
    · cases h1
  | some b => exact ⟨b, rfl⟩
/-- parts of a list that is laid in cells -/
theorem flatMap_at {α : Type} {c : α → List Value} {s : Nat} {xs : List α} (h : ∀ x ∈ xs, (c x).length = s) {i j : Nat} {x : α} (hx : xs[i]? = some x) (hj : j < s) : (xs.flatMap c)[i * s + j]? = (c x)[j]? := by
  induction xs generalizing i with
  | nil => simp at hx
  | cons l L ih =>
    have h1 := h l (by simp)
    rw [List.flatMap_cons]
    cases i with
    | zero =>
      obtain rfl : l = x := by simpa using hx
      rw [List.getElem?_append_left (by omega)]
      simp
    | succ i =>
      rw [List.getElem?_append_right (by rw [h1, Nat.add_mul]; omega), h1, show (i + 1) * s + j - s = i * s + j by rw [Nat.add_mul]; omega]
      exact ih (fun x hx => h x (by simp [hx])) (by simpa using hx)
theorem flatMap_len {α : Type} {c : α → List Value} {s : Nat} {xs : List α} (h : ∀ x ∈ xs, (c x).length = s) : (xs.flatMap c).length = xs.length * s := by
  induction xs with
  | nil => simp
  | cons l L ih => rw [List.flatMap_cons, List.length_append, h l (by simp), ih (fun x hx => h x (by simp [hx])), List.length_cons, Nat.add_mul]; omega
theorem Rd.elem {α : Type} {c : α → List Value} {s n : Nat} {ad : Addr} {xs : List α} (R : Rd w s (some ad) n (xs.flatMap c)) (h : ∀ x ∈ xs, (c x).length = s) {i : Nat} {x : α} (hx : xs[i]? = some x) : Rd w 1 (some (ad.add ((i : Int).toNat * s))) s (c x) :=
  ⟨by rw [h x (List.mem_of_getElem? hx), Nat.mul_one], fun j u hu => ⟨_, rfl, by
    have hj : j < s := by
      have := (List.getElem?_eq_some_iff.1 hu).1
      rwa [h x (List.mem_of_getElem? hx)] at this
    rw [add_add, Int.toNat_natCast]
    exact R.cell (by rw [flatMap_at h hx hj]; exact hu)⟩⟩
theorem St.asRwAt (S : St w0 w ex ks ps) (i : Nat) {e : TypeId} {s n n' c : Nat} {xs ys : List Value} (hp : ps[i]? = some (Rw e s n c xs)) (hn : n = n') (h : xs = ys) : St w0 w ex ks (ps.set i (Rw e s n' c ys)) := by
  subst hn h
  exact S.mono i _ _ hp fun o ho => ho
end
section
variable {P : Program} {ρ : Operand → Value} {d : Option Tmp} {x y : Operand} {t ty yt : TypeId} {ps : String} {af : Array Edge} {g : Option (Nat × Bool)} {w w0 : World} {a b : Int} {k : IntKind} {ex : List Nat} {ks : List (Option Nat)} {pp : List (Option Obj → Prop)}
/-- a block of its own, whole -/
theorem e_loadEx {bl s : Nat} {cs : Array Value} {e : TypeId} (hx : ρ x = .pointer (some ⟨bl, 0, none⟩)) (ha : Ag P t true) (hs : Sz P t s) (S : St w0 w ex ks pp) (i : Nat) (hk : ks[i]? = some (some bl)) (hp : pp[i]? = some (Ex cs e)) (hl : cs.size = s) :
    (execOp ρ { dst := d, op := .load t x, type := ty, pos := ps, after := af, guard := g }).run P w = .ok (.value (.agg cs)) w := by
  have h := e_loadN (P := P) (ρ := ρ) (d := d) (x := x) (t := t) (ty := ty) (ps := ps) (af := af) (g := g) (w := w) (cs := cs.toList) hx ha hs (by simpa using hl) (fun j u hu => (S.cell i hk hp j).trans (by simpa using hu))
  simpa using h
theorem All32.single {l : List Nat} (h : l.length = 32) : All32 [l] := by
  intro x hx
  rw [List.mem_singleton.1 hx]
  exact h
theorem sums_flat (L : List (List Nat)) : ((L.map fun l => Value.agg (bv l).toArray).flatMap fun v => v.cells.toList) = sv L := by
  induction L with
  | nil => rfl
  | cons l L ih =>
    rw [List.map_cons, List.flatMap_cons, ih]
    simp [sv, Value.cells]
theorem d_litS {e : TypeId} {n : Nat} {parts : List (Nat × Operand)} {L : List (List Nat)} {z : Value} (S : St w0 w ex ks pp) (hu : P.underlying t = some (.slice e)) (hs : Sz P e 32) (hz : Zv P e z) (hsz : z.cells.size = 32)
    (hp : parts.map (fun q => (q.1, ρ q.2)) = (List.range' 0 n).zip (L.map fun l => Value.agg (bv l).toArray)) (hn : L.length = n) (hL : All32 L) (hlim : n * 32 ≤ 16777216) :
    Does P ρ { dst := d, op := .buildSlice t n parts.toArray, type := ty, pos := ps, after := af, guard := g } w
      fun v w' => ∃ b, v = .slice (at_ (some b)) n n ∧ St w0 w' ex (some b :: ks) (Rw e 32 n n (sv L) :: pp) := by
  have h := d_lit (P := P) (ρ := ρ) (d := d) (ty := ty) (ps := ps) (af := af) (g := g) S hu hs hz hsz (by decide) hp (by simpa using hn) (fun v h => by
    obtain ⟨l, hl, rfl⟩ := List.mem_map.1 h
    simp [Value.cells, hL l hl]) hlim
  rwa [sums_flat] at h
end
/-! ### Cuts and splits -/
section
variable {P : Program} {Q : Exit → Act → World → Prop} {n : Nat} {f : Nat → Value} {w : World} {c : Code}
/-- What a piece of code has done, told by M; then the rest, once. -/
theorem s_cut (M : (Nat → Value) → (Nat → Value) → World → Prop) (h1 : c.wp P (Exit.then (fun a' w' => ∃ f', a' = F n f' ∧ M f f' w') Q) (F n f) w) (h2 : ∀ f' w', M f f' w' → Q .normal (F n f') w') : c.wp P Q (F n f) w := by
  refine Code.wp_mono (fun e a' w' h => ?_) h1
  cases e with
  | normal =>
    obtain ⟨f', rfl, hm⟩ := h
    exact h2 f' w' hm
  | _ => exact h
variable {ops : Array Oper} {S : World → Prop} {N : Act → World → Prop} {rest : List Oper} {rest' : List (Bool × Oper)} {w' : World} {d0 : Option Tmp} {op0 : Op} {ty0 : TypeId} {ps0 : String} {af0 : Array Edge} {g0 : Option (Nat × Bool)} {p : Prop} [Decidable p] {j d : Nat} {want b b' : Bool} {oj : Oper}
theorem p_valB (hr : (execOp (ev n f) { dst := d0, op := op0, type := ty0, pos := ps0, after := af0, guard := g0 }).run P w = .ok (.value (.bool (decide p))) w') (hg : g0 = none) (h1 : p → wpList P ops Q rest (F n (updo f d0 (.bool true))) w') (h2 : ¬ p → wpList P ops Q rest (F n (updo f d0 (.bool false))) w') :
    wpList P ops Q ({ dst := d0, op := op0, type := ty0, pos := ps0, after := af0, guard := g0 } :: rest) (F n f) w := by
  by_cases h : p
  · exact p_val (by rw [hr, decide_eq_true h]) hg (h1 h)
  · exact p_val (by rw [hr, decide_eq_false h]) hg (h2 h)
theorem p_valb (hr : (execOp (ev n f) { dst := d0, op := op0, type := ty0, pos := ps0, after := af0, guard := g0 }).run P w = .ok (.value (.bool b)) w') (hg : g0 = none) (h1 : b = true → wpList P ops Q rest (F n (updo f d0 (.bool true))) w') (h2 : b = false → wpList P ops Q rest (F n (updo f d0 (.bool false))) w') :
    wpList P ops Q ({ dst := d0, op := op0, type := ty0, pos := ps0, after := af0, guard := g0 } :: rest) (F n f) w := by
  cases b with
  | true => exact p_val hr hg (h1 rfl)
  | false => exact p_val hr hg (h2 rfl)
theorem pg_valB (hg : g0 = some (j, want)) (hj : ops[j]? = some oj) (hd : oj.dst = some d) (hv : ev n f (.tmp d) = .bool b') (hb : (b' == want) = true) (hr : (execOp (ev n f) { dst := d0, op := op0, type := ty0, pos := ps0, after := af0, guard := g0 }).run P w = .ok (.value (.bool (decide p))) w') (h1 : p → wpList P ops Q rest (F n (updo f d0 (.bool true))) w') (h2 : ¬ p → wpList P ops Q rest (F n (updo f d0 (.bool false))) w') :
    wpList P ops Q ({ dst := d0, op := op0, type := ty0, pos := ps0, after := af0, guard := g0 } :: rest) (F n f) w := by
  by_cases h : p
  · exact pg_val hg hj hd hv hb (by rw [hr, decide_eq_true h]) (h1 h)
  · exact pg_val hg hj hd hv hb (by rw [hr, decide_eq_false h]) (h2 h)
theorem pg_valb (hg : g0 = some (j, want)) (hj : ops[j]? = some oj) (hd : oj.dst = some d) (hv : ev n f (.tmp d) = .bool b') (hb : (b' == want) = true) (hr : (execOp (ev n f) { dst := d0, op := op0, type := ty0, pos := ps0, after := af0, guard := g0 }).run P w = .ok (.value (.bool b)) w') (h1 : b = true → wpList P ops Q rest (F n (updo f d0 (.bool true))) w') (h2 : b = false → wpList P ops Q rest (F n (updo f d0 (.bool false))) w') :
    wpList P ops Q ({ dst := d0, op := op0, type := ty0, pos := ps0, after := af0, guard := g0 } :: rest) (F n f) w := by
  cases b with
  | true => exact pg_val hg hj hd hv hb hr (h1 rfl)
  | false => exact pg_val hg hj hd hv hb hr (h2 rfl)
theorem q_valB (hr : ∀ w, S w → (execOp (ev n f) { dst := d0, op := op0, type := ty0, pos := ps0, after := af0, guard := g0 }).run P w = .ok (.value (.bool (decide p))) w) (hg : g0 = none) (hS : S w) (h1 : p → seqH P ops Q S N rest' (F n (updo f d0 (.bool true))) w) (h2 : ¬ p → seqH P ops Q S N rest' (F n (updo f d0 (.bool false))) w) :
    seqH P ops Q S N ((true, { dst := d0, op := op0, type := ty0, pos := ps0, after := af0, guard := g0 }) :: rest') (F n f) w := by
  by_cases h : p
  · exact q_val (fun w hw => by rw [hr w hw, decide_eq_true h]) hg hS (h1 h)
  · exact q_val (fun w hw => by rw [hr w hw, decide_eq_false h]) hg hS (h2 h)
theorem q_valb (hr : ∀ w, S w → (execOp (ev n f) { dst := d0, op := op0, type := ty0, pos := ps0, after := af0, guard := g0 }).run P w = .ok (.value (.bool b)) w) (hg : g0 = none) (hS : S w) (h1 : b = true → seqH P ops Q S N rest' (F n (updo f d0 (.bool true))) w) (h2 : b = false → seqH P ops Q S N rest' (F n (updo f d0 (.bool false))) w) :
    seqH P ops Q S N ((true, { dst := d0, op := op0, type := ty0, pos := ps0, after := af0, guard := g0 }) :: rest') (F n f) w := by
  cases b with
  | true => exact q_val hr hg hS (h1 rfl)
  | false => exact q_val hr hg hS (h2 rfl)
theorem qg_valB (hg : g0 = some (j, want)) (hj : ops[j]? = some oj) (hd : oj.dst = some d) (hv : ev n f (.tmp d) = .bool b') (hb : (b' == want) = true) (hr : ∀ w, S w → (execOp (ev n f) { dst := d0, op := op0, type := ty0, pos := ps0, after := af0, guard := g0 }).run P w = .ok (.value (.bool (decide p))) w) (hS : S w) (h1 : p → seqH P ops Q S N rest' (F n (updo f d0 (.bool true))) w) (h2 : ¬ p → seqH P ops Q S N rest' (F n (updo f d0 (.bool false))) w) :
    seqH P ops Q S N ((true, { dst := d0, op := op0, type := ty0, pos := ps0, after := af0, guard := g0 }) :: rest') (F n f) w := by
  by_cases h : p
  · exact qg_val hg hj hd hv hb (fun w hw => by rw [hr w hw, decide_eq_true h]) hS (h1 h)
  · exact qg_val hg hj hd hv hb (fun w hw => by rw [hr w hw, decide_eq_false h]) hS (h2 h)
theorem qg_valb (hg : g0 = some (j, want)) (hj : ops[j]? = some oj) (hd : oj.dst = some d) (hv : ev n f (.tmp d) = .bool b') (hb : (b' == want) = true) (hr : ∀ w, S w → (execOp (ev n f) { dst := d0, op := op0, type := ty0, pos := ps0, after := af0, guard := g0 }).run P w = .ok (.value (.bool b)) w) (hS : S w) (h1 : b = true → seqH P ops Q S N rest' (F n (updo f d0 (.bool true))) w) (h2 : b = false → seqH P ops Q S N rest' (F n (updo f d0 (.bool false))) w) :
    seqH P ops Q S N ((true, { dst := d0, op := op0, type := ty0, pos := ps0, after := af0, guard := g0 }) :: rest') (F n f) w := by
  cases b with
  | true => exact qg_val hg hj hd hv hb hr hS (h1 rfl)
  | false => exact qg_val hg hj hd hv hb hr hS (h2 rfl)
end
end Go.Proofs.Ytdhfiamgmokfbaa.E
