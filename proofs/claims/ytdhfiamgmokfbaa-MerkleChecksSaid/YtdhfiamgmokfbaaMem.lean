/- Laws on memory for walks over this seat's program: what a call has made for itself, slices that are read, rows that are appended to. It proves no statement by itself. -/
import Derived.Test.YtdhfiamgmokfbaaEng
import Derived.Laws.Rows
import Derived.Laws.CopyRow
import Derived.Laws.Tables
import Derived.Laws.MakeOwn
import Derived.Laws.OwnMore
import Derived.Maps.AppendAt
import Derived.Deep.Draws
import Derived.Below
set_option linter.unusedSimpArgs false
set_option linter.unusedVariables false
namespace Go.Proofs.Ytdhfiamgmokfbaa.E
open Go Go.RowKit

def Sz (P : Program) (t : TypeId) (n : Nat) : Prop := ∀ w, (sizeOf t).run P w = .ok n w
def Zv (P : Program) (t : TypeId) (v : Value) : Prop := ∀ w, (zeroValue t).run P w = .ok v w
def Ag (P : Program) (t : TypeId) (b : Bool) : Prop := ∀ w, (isAgg t).run P w = .ok b w
theorem sz_of {P : Program} {t : TypeId} {n : Nat} (h : (P.info? t).map (·.size) = some n) : Sz P t n := by
  intro w
  obtain ⟨i, hi, hs⟩ := Option.map_eq_some_iff.1 h
  simp [sizeOf, typeInfo, hi, hs]
theorem zv_of {P : Program} {t : TypeId} {v : Value} (h : (P.info? t).map (·.zero) = some (some v)) : Zv P t v := by
  intro w
  obtain ⟨i, hi, hs⟩ := Option.map_eq_some_iff.1 h
  simp [zeroValue, typeInfo, hi, hs]
theorem ag_of {P : Program} {t : TypeId} {d : TypeDesc} (b : Bool) (h : P.underlying t = some d) (hd : (match d with | .struct _ | .array _ _ => true | _ => false) = b) : Ag P t b := by
  intro w
  unfold isAgg
  rw [Sem.run_bind, run_underlying h w]
  cases d <;> simp_all

theorem add_lit (b m : Nat) : (⟨b, 0, none⟩ : Addr).add m = ⟨b, m, none⟩ := by unfold Addr.add; split <;> simp_all
theorem add_zero (a : Addr) : a.add 0 = a := by simp [Addr.add]
theorem add_add (a : Addr) (i j : Nat) : (a.add i).add j = a.add (i + j) := by
  unfold Addr.add
  by_cases hi : i = 0 <;> by_cases hj : j = 0 <;> simp [hi, hj, Nat.add_assoc]

/-! ### Slices that are read -/
/-- The slice value '.slice A n c' reads as the cells xs. -/
def Rd (w : World) (size : Nat) (A : Option Addr) (n : Nat) (xs : List Value) : Prop :=
  xs.length = n * size ∧ ∀ j u, xs[j]? = some u → ∃ ad, A = some ad ∧ w.cell? (ad.add j) = some u
theorem Rd.nil (w : World) (size : Nat) (A : Option Addr) : Rd w size A 0 [] := ⟨by simp, fun j u h => by simp at h⟩
theorem Rd.below {w w' : World} {size n : Nat} {A : Option Addr} {xs : List Value} (h : Rd w size A n xs) (hb : Below w.heap.size w w') : Rd w' size A n xs :=
  ⟨h.1, fun j u hu => by
    obtain ⟨ad, e, hc⟩ := h.2 j u hu
    exact ⟨ad, e, (hb.cell (World.block_lt_of_cell? w _ hc)).trans hc⟩⟩
theorem Rd.drew {w : World} {size n : Nat} {A : Option Addr} {xs : List Value} (h : Rd w size A n xs) : Rd w.drew size A n xs := h
theorem Rd.cell {w : World} {n : Nat} {ad : Addr} {size : Nat} {xs : List Value} (h : Rd w size (some ad) n xs) {j : Nat} {u : Value} (hu : xs[j]? = some u) : w.cell? (ad.add j) = some u := by
  obtain ⟨ad', e, hc⟩ := h.2 j u hu
  cases e
  exact hc
theorem Rd.some_ {w : World} {size n : Nat} {A : Option Addr} {xs : List Value} (h : Rd w size A n xs) (hn : 0 < xs.length) : ∃ ad, A = some ad := by
  obtain ⟨ad, e, _⟩ := h.2 0 xs[0] (List.getElem?_eq_getElem hn)
  exact ⟨ad, e⟩
theorem Rd.take {w : World} {size n : Nat} {A : Option Addr} {xs : List Value} (h : Rd w size A n xs) {m : Nat} (hm : m ≤ n) : Rd w size A m (xs.take (m * size)) := by
  have h1 : m * size ≤ n * size := Nat.mul_le_mul_right _ hm
  refine ⟨by rw [List.length_take, h.1]; omega, fun j u hu => h.2 j u ?_⟩
  rw [List.getElem?_take] at hu
  split at hu
  · exact hu
  · cases hu
/-- 's[m:]', its address as the model has it -/
theorem Rd.drop {w : World} {size n cap : Nat} {A : Option Addr} {xs : List Value} (h : Rd w size A n xs) {m : Nat} (hm : m ≤ n) (hc : n ≤ cap) :
    Rd w size (if cap = m then A else A.map (·.add (m * size))) (n - m) (xs.drop (m * size)) := by
  refine ⟨by rw [List.length_drop, h.1, Nat.sub_mul], fun j u hu => ?_⟩
  rw [List.getElem?_drop] at hu
  obtain ⟨ad, rfl, hcell⟩ := h.2 _ u hu
  have hlt : m * size + j < n * size := by
    rw [← h.1]
    exact (List.getElem?_eq_some_iff.1 hu).1
  have : ¬ cap = m := by
    intro e
    have : n = m := by omega
    subst this
    omega
  rw [if_neg this]
  exact ⟨ad.add (m * size), rfl, by rw [add_add]; exact hcell⟩

/-! ### What a call has: old blocks as they were but for 'ex', and blocks of its own, each by what it holds -/
structure St (w0 w : World) (ex : List Nat) (ks : List (Option Nat)) (ps : List (Option Obj → Prop)) : Prop where
  os : w.os = w0.os
  tape : w.tape = w0.tape
  output : w.output = w0.output
  size : w0.heap.size ≤ w.heap.size
  old : ∀ k, k < w0.heap.size → k ∉ ex → w.heap[k]? = w0.heap[k]?
  own : ∀ (i : Nat) (k : Option Nat) (p : Option Obj → Prop), ks[i]? = some k → ps[i]? = some p → p (k.bind fun b => w.heap[b]?)
  lt : ∀ b, some b ∈ ks → b < w.heap.size
  fresh : ∀ b, some b ∈ ks → w0.heap.size ≤ b ∨ b ∈ ex
  nodup : ∀ (i j b : Nat), ks[i]? = some (some b) → ks[j]? = some (some b) → i = j

def Ex (cs : Array Value) (t : TypeId) : Option Obj → Prop := fun o => o = some (.cells cs t (0, 0))
def Rw (e : TypeId) (size n cap : Nat) (xs : List Value) : Option Obj → Prop := fun o =>
  xs.length = n * size ∧ ((o = none ∧ n = 0 ∧ cap = 0) ∨ ∃ cur, o = some (.cells cur e (0, 0)) ∧ n ≤ cap ∧ cap ≤ maxLen ∧ cur.size = cap * size ∧ cur.toList.take (n * size) = xs)
abbrev at_ (k : Option Nat) : Option Addr := k.map fun b => ⟨b, 0, none⟩

section
variable {w0 w w' : World} {ex : List Nat} {ks ks' : List (Option Nat)} {ps ps' : List (Option Obj → Prop)}
theorem St.init (w : World) : St w w [] [] [] := ⟨rfl, rfl, rfl, Nat.le_refl _, fun _ _ _ => rfl, fun i k p h => by simp at h, fun b h => by simp at h, fun b h => by simp at h, fun i j b h => by simp at h⟩
theorem St.init1 {g : Nat} {o : Obj} (p : Option Obj → Prop) (hg : w.heap[g]? = some o) (hp : p (some o)) : St w w [g] [some g] [p] :=
  ⟨rfl, rfl, rfl, Nat.le_refl _, fun _ _ _ => rfl, fun i k p' h h' => by
    match i, h, h' with
    | 0, h, h' => simp at h h'; subst h h'; simpa [hg] using hp
    | i + 1, h, h' => simp at h, fun b h => by
    simp at h
    subst h
    exact (Array.getElem?_eq_some_iff.1 hg).1, fun b h => .inr (by simpa using h), fun i j b h h' => by
    match i, j, h, h' with
    | 0, 0, _, _ => rfl
    | i + 1, _, h, _ => simp at h
    | _, j + 1, _, h' => simp at h'⟩
theorem St.drew (S : St w0 w ex ks ps) : St w0 w.drew ex ks ps := ⟨S.os, S.tape, S.output, S.size, S.old, S.own, S.lt, S.fresh, S.nodup⟩
theorem St.below (S : St w0 w ex ks ps) (hb : Below w.heap.size w w') : St w0 w' ex ks ps :=
  ⟨hb.os.trans S.os, hb.tape.trans S.tape, hb.output.trans S.output, Nat.le_trans S.size hb.size, fun k hk hx => (hb.block k (by have := S.size; omega)).trans (S.old k hk hx),
   fun i k p h h' => by
    have := S.own i k p h h'
    cases k with
    | none => exact this
    | some b =>
      have hlt := S.lt b (List.mem_of_getElem? h)
      simpa [hb.block b hlt] using this,
   fun b h => Nat.lt_of_lt_of_le (S.lt b h) hb.size, S.fresh, S.nodup⟩
theorem St.alloc (S : St w0 w ex ks ps) (o : Obj) (p : Option Obj → Prop) (hp : p (some o)) : St w0 (w.alloc o) ex (some w.heap.size :: ks) (p :: ps) := by
  have hb : Below w.heap.size w (w.alloc o) := (Below.refl _ _).alloc (Nat.le_refl _) o
  have S' := S.below hb
  refine ⟨S'.os, S'.tape, S'.output, S'.size, S'.old, fun i k p' h h' => ?_, fun b h => ?_, fun b h => ?_, fun i j b h h' => ?_⟩
  · match i, h, h' with
    | 0, h, h' =>
      simp at h h'
      subst h h'
      simp only [Option.bind_some, heap_alloc_new]
      exact hp
    | i + 1, h, h' => exact S'.own i k p' (by simpa using h) (by simpa using h')
  · rcases List.mem_cons.1 h with h | h
    · cases h
      simp
    · exact S'.lt b h
  · rcases List.mem_cons.1 h with h | h
    · cases h
      exact .inl S.size
    · exact S'.fresh b h
  · match i, j, h, h' with
    | 0, 0, _, _ => rfl
    | 0, j + 1, h, h' =>
      simp at h h'
      have := S.lt b (List.mem_of_getElem? h')
      omega
    | i + 1, 0, h, h' =>
      simp at h h'
      have := S.lt b (List.mem_of_getElem? h)
      omega
    | i + 1, j + 1, h, h' => exact congrArg (· + 1) (S.nodup i j b (by simpa using h) (by simpa using h'))
/-- a callee's own, put with the caller's: the callee has turned nothing old -/
theorem St.merge (S : St w0 w ex ks ps) (T : St w w' [] ks' ps') (hl : ps'.length = ks'.length) : St w0 w' ex (ks' ++ ks) (ps' ++ ps) := by
  have hb : Below w.heap.size w w' := ⟨T.os, T.tape, T.output, T.size, fun k hk => T.old k hk (by simp)⟩
  have S' := S.below hb
  have hfr : ∀ b, some b ∈ ks' → w.heap.size ≤ b := fun b h => (T.fresh b h).resolve_right (by simp)
  refine ⟨S'.os, S'.tape, S'.output, S'.size, S'.old, fun i k p' h h' => ?_, fun b h => ?_, fun b h => ?_, fun i j b h h' => ?_⟩
  · rcases Nat.lt_or_ge i ks'.length with hi | hi
    · rw [List.getElem?_append_left hi] at h
      rw [List.getElem?_append_left (by omega)] at h'
      exact T.own i k p' h h'
    · rw [List.getElem?_append_right hi] at h
      rw [List.getElem?_append_right (by omega), hl] at h'
      exact S'.own _ k p' h h'
  · rcases List.mem_append.1 h with h | h
    · exact T.lt b h
    · exact S'.lt b h
  · rcases List.mem_append.1 h with h | h
    · exact .inl (by have := hfr b h; have := S.size; omega)
    · exact S'.fresh b h
  · rcases Nat.lt_or_ge i ks'.length with hi | hi <;> rcases Nat.lt_or_ge j ks'.length with hj | hj
    · rw [List.getElem?_append_left hi] at h
      rw [List.getElem?_append_left hj] at h'
      exact T.nodup i j b h h'
    · rw [List.getElem?_append_left hi] at h
      rw [List.getElem?_append_right hj] at h'
      have := hfr b (List.mem_of_getElem? h)
      have := S.lt b (List.mem_of_getElem? h')
      omega
    · rw [List.getElem?_append_right hi] at h
      rw [List.getElem?_append_left hj] at h'
      have := hfr b (List.mem_of_getElem? h')
      have := S.lt b (List.mem_of_getElem? h)
      omega
    · rw [List.getElem?_append_right hi] at h
      rw [List.getElem?_append_right hj] at h'
      have := S.nodup _ _ b h h'
      omega
/-- what is no more spoken of -/
theorem St.tail {k : Option Nat} {p : Option Obj → Prop} (S : St w0 w ex (k :: ks) (p :: ps)) : St w0 w ex ks ps :=
  ⟨S.os, S.tape, S.output, S.size, S.old, fun i k p h h' => S.own (i + 1) k p (by simpa using h) (by simpa using h'), fun b h => S.lt b (List.mem_cons_of_mem _ h), fun b h => S.fresh b (List.mem_cons_of_mem _ h),
   fun i j b h h' => by
    have := S.nodup (i + 1) (j + 1) b (by simpa using h) (by simpa using h')
    omega⟩
/-- another order, some left out: 'σ' tells of each place where it stood -/
theorem St.pick (S : St w0 w ex ks ps) (σ : List Nat) (hσ : σ.Nodup) (hk : ∀ i ∈ σ, i < ks.length) (hp : ∀ i ∈ σ, i < ps.length) :
    St w0 w ex (σ.map fun i => ks.getD i none) (σ.map fun i => ps.getD i fun _ => True) := by
  have key : ∀ (i : Nat) (k : Option Nat), (σ.map fun i => ks.getD i none)[i]? = some k → ∃ s, σ[i]? = some s ∧ ks[s]? = some k := by
    intro i k h
    rw [List.getElem?_map] at h
    obtain ⟨s, hs, hk'⟩ := Option.map_eq_some_iff.1 h
    refine ⟨s, hs, ?_⟩
    have := hk s (List.mem_of_getElem? hs)
    rw [List.getD_eq_getElem?_getD, List.getElem?_eq_getElem this] at hk'
    rw [List.getElem?_eq_getElem this]
    exact congrArg some hk'
  refine ⟨S.os, S.tape, S.output, S.size, S.old, fun i k p h h' => ?_, fun b h => ?_, fun b h => ?_, fun i j b h h' => ?_⟩
  · obtain ⟨s, hs, hk'⟩ := key i k h
    rw [List.getElem?_map, hs] at h'
    have hlt := hp s (List.mem_of_getElem? hs)
    simp only [Option.map_some, Option.some.injEq] at h'
    rw [List.getD_eq_getElem?_getD, List.getElem?_eq_getElem hlt] at h'
    exact S.own s k p hk' (by rw [List.getElem?_eq_getElem hlt]; exact congrArg some h')
  · obtain ⟨i, hi⟩ := List.getElem?_of_mem h
    obtain ⟨s, hs, hk'⟩ := key i _ hi
    exact S.lt b (List.mem_of_getElem? hk')
  · obtain ⟨i, hi⟩ := List.getElem?_of_mem h
    obtain ⟨s, hs, hk'⟩ := key i _ hi
    exact S.fresh b (List.mem_of_getElem? hk')
  · obtain ⟨s, hs, hk1⟩ := key i _ h
    obtain ⟨s', hs', hk2⟩ := key j _ h'
    have := S.nodup s s' b hk1 hk2
    subst this
    have hi := (List.getElem?_eq_some_iff.1 hs)
    have hj := (List.getElem?_eq_some_iff.1 hs')
    obtain ⟨hi, ei⟩ := hi
    obtain ⟨hj, ej⟩ := hj
    exact (List.getElem_inj hσ).1 (ei.trans ej.symm)
theorem St.to_below (S : St w0 w [] ks ps) : Below w0.heap.size w0 w := ⟨S.os, S.tape, S.output, S.size, fun k hk => S.old k hk (by simp)⟩
theorem Below.st {w w' : World} (h : Below w.heap.size w w') : St w w' [] [] [] := (St.init w).below h
/-- a block of its own gets other cells -/
theorem St.setRow (S : St w0 w ex ks ps) (i : Nat) {b : Nat} {cs cs' : Array Value} {t : TypeId} {fr : Nat × Nat} (p' : Option Obj → Prop) (hk : ks[i]? = some (some b)) (hb : w.heap[b]? = some (.cells cs t fr)) (hp : p' (some (.cells cs' t fr))) :
    St w0 (w.setRow b cs') ex ks (ps.set i p') := by
  have hlt := S.lt b (List.mem_of_getElem? hk)
  refine ⟨S.os, S.tape, S.output, by simpa using S.size, fun k hk' hx => ?_, fun j k p h h' => ?_, fun c h => by simpa using S.lt c h, S.fresh, S.nodup⟩
  · have : k ≠ b := by
      rintro rfl
      rcases S.fresh k (List.mem_of_getElem? hk) with h | h
      · omega
      · exact hx h
    rw [setRow_other w b k cs' this]
    exact S.old k hk' hx
  · by_cases hij : j = i
    · subst hij
      rw [hk] at h
      cases h
      have hl : j < ps.length := by
        have := (List.getElem?_eq_some_iff.1 h').1
        simpa using this
      rw [List.getElem?_set_self hl] at h'
      cases h'
      simpa [setRow_heap w b cs cs' t fr hb] using hp
    · rw [List.getElem?_set_ne (Ne.symm hij)] at h'
      have := S.own j k p h h'
      cases k with
      | none => exact this
      | some c =>
        have : c ≠ b := by
          rintro rfl
          exact hij (S.nodup j i c h hk)
        simpa [setRow_other w b c cs' this] using S.own j (some c) p h h'
theorem St.mono (S : St w0 w ex ks ps) (i : Nat) (p p' : Option Obj → Prop) (hp : ps[i]? = some p) (h : ∀ o, p o → p' o) : St w0 w ex ks (ps.set i p') := by
  refine ⟨S.os, S.tape, S.output, S.size, S.old, fun j k q hk hq => ?_, S.lt, S.fresh, S.nodup⟩
  by_cases hij : j = i
  · subst hij
    have hl : j < ps.length := (List.getElem?_eq_some_iff.1 hp).1
    rw [List.getElem?_set_self hl] at hq
    cases hq
    exact h _ (S.own j k p hk hp)
  · rw [List.getElem?_set_ne (Ne.symm hij)] at hq
    exact S.own j k q hk hq
theorem St.exact_ (S : St w0 w ex ks ps) (i : Nat) {b : Nat} {cs : Array Value} {t : TypeId} (hk : ks[i]? = some (some b)) (hp : ps[i]? = some (Ex cs t)) : w.heap[b]? = some (.cells cs t (0, 0)) := S.own i _ _ hk hp
theorem St.cell (S : St w0 w ex ks ps) (i : Nat) {b : Nat} {cs : Array Value} {t : TypeId} (hk : ks[i]? = some (some b)) (hp : ps[i]? = some (Ex cs t)) (m : Nat) : w.cell? ((⟨b, 0, none⟩ : Addr).add m) = cs[m]? := by
  rw [add_lit]
  exact cell_of_row w b m cs t (0, 0) (S.exact_ i hk hp)
/-- 'x[lo:hi]' of an array of its own reads -/
theorem St.rdEx (S : St w0 w ex ks ps) (i : Nat) {b : Nat} {cs : Array Value} {t : TypeId} (hk : ks[i]? = some (some b)) (hp : ps[i]? = some (Ex cs t)) {size n : Nat} (hn : cs.size = n * size) : Rd w size (some ⟨b, 0, none⟩) n cs.toList :=
  ⟨by simpa using hn, fun j u hu => ⟨_, rfl, by rw [S.cell i hk hp]; simpa using hu⟩⟩
theorem St.rdRw (S : St w0 w ex ks ps) (i : Nat) {k : Option Nat} {e : TypeId} {size n cap : Nat} {xs : List Value} (hk : ks[i]? = some k) (hp : ps[i]? = some (Rw e size n cap xs)) : Rd w size (at_ k) n xs := by
  obtain ⟨hl, h⟩ := S.own i _ _ hk hp
  refine ⟨hl, fun j u hu => ?_⟩
  rcases h with ⟨hn, h0, _⟩ | ⟨cur, hc, h1, h2, h3, h4⟩
  · subst h0
    have : xs = [] := List.eq_nil_of_length_eq_zero (by simpa using hl)
    subst this
    simp at hu
  · cases k with
    | none => simp at hc
    | some b =>
      refine ⟨_, rfl, ?_⟩
      rw [add_lit, cell_of_row w b j cur e (0, 0) (by simpa using hc)]
      rw [← h4, List.getElem?_take] at hu
      split at hu
      · simpa using hu
      · cases hu
theorem St.rdOld (S : St w0 w ex ks ps) {size n : Nat} {A : Option Addr} {xs : List Value} (h : Rd w0 size A n xs) (hx : ex = []) : Rd w size A n xs := by
  subst hx
  exact h.below S.to_below
theorem St.addNil (S : St w0 w ex ks ps) (e : TypeId) (size : Nat) : St w0 w ex (none :: ks) (Rw e size 0 0 [] :: ps) := by
  refine ⟨S.os, S.tape, S.output, S.size, S.old, fun i k p h h' => ?_, fun b h => ?_, fun b h => ?_, fun i j b h h' => ?_⟩
  · match i, h, h' with
    | 0, h, h' =>
      simp at h h'
      subst h h'
      exact ⟨by simp, .inl ⟨rfl, rfl, rfl⟩⟩
    | i + 1, h, h' => exact S.own i k p (by simpa using h) (by simpa using h')
  · rcases List.mem_cons.1 h with h | h
    · cases h
    · exact S.lt b h
  · rcases List.mem_cons.1 h with h | h
    · cases h
    · exact S.fresh b h
  · match i, j, h, h' with
    | 0, _, h, _ => simp at h
    | _, 0, _, h' => simp at h'
    | i + 1, j + 1, h, h' => exact congrArg (· + 1) (S.nodup i j b (by simpa using h) (by simpa using h'))
theorem St.grown (S : St w0 w ex ks ps) (i : Nat) {k k' : Option Nat} {p' : Option Obj → Prop} (hk : ks[i]? = some k) (hg : w.grownBy w' k) (hk' : k' = k ∨ k' = some w.heap.size)
    (hlt : ∀ b, k' = some b → b < w'.heap.size) (hp : p' (k'.bind fun b => w'.heap[b]?)) : St w0 w' ex (ks.set i k') (ps.set i p') := by
  have hil : i < ks.length := (List.getElem?_eq_some_iff.1 hk).1
  have hmem : ∀ b, some b ∈ ks.set i k' → some b ∈ ks ∨ (b = w.heap.size ∧ k' = some b) := by
    intro b h
    rcases List.mem_or_eq_of_mem_set h with h | h
    · exact .inl h
    · rcases hk' with e | e
      · exact .inl (by rw [h, e]; exact List.mem_of_getElem? hk)
      · rw [e] at h
        cases h
        exact .inr ⟨rfl, e⟩
  have hne : ∀ j c, ks[j]? = some (some c) → j ≠ i → some c ≠ k := by
    intro j c h hj e
    subst e
    exact hj (S.nodup j i c h hk)
  refine ⟨hg.os.trans S.os, hg.tape.trans S.tape, hg.output.trans S.output, Nat.le_trans S.size hg.size, fun c hc hx => ?_, fun j q p h h' => ?_, fun b h => ?_, fun b h => ?_, fun a b c h h' => ?_⟩
  · refine (hg.block c (by have := S.size; omega) (fun e => ?_)).trans (S.old c hc hx)
    subst e
    rcases S.fresh c (List.mem_of_getElem? hk) with h | h
    · omega
    · exact hx h
  · by_cases hj : j = i
    · subst hj
      rw [List.getElem?_set_self hil] at h
      have hl : j < ps.length := by
        have := (List.getElem?_eq_some_iff.1 h').1
        simpa using this
      rw [List.getElem?_set_self hl] at h'
      cases h
      cases h'
      exact hp
    · rw [List.getElem?_set_ne (Ne.symm hj)] at h h'
      have := S.own j q p h h'
      cases q with
      | none => exact this
      | some c =>
        have hc := S.lt c (List.mem_of_getElem? h)
        simpa [hg.block c hc (hne j c h hj)] using this
  · rcases hmem b h with h | ⟨h, e⟩
    · exact Nat.lt_of_lt_of_le (S.lt b h) hg.size
    · exact hlt b e
  · rcases hmem b h with h | ⟨h, e⟩
    · exact S.fresh b h
    · exact .inl (by rw [h]; exact S.size)
  · by_cases ha : a = i <;> by_cases hb : b = i
    · rw [ha, hb]
    · subst ha
      rw [List.getElem?_set_self hil] at h
      rw [List.getElem?_set_ne (Ne.symm hb)] at h'
      have e : k' = some c := by simpa using h
      rcases hk' with e' | e'
      · exact absurd (e.symm.trans e') (hne b c h' hb)
      · rw [e'] at e
        cases e
        exact absurd (S.lt _ (List.mem_of_getElem? h')) (Nat.lt_irrefl _)
    · subst hb
      rw [List.getElem?_set_self hil] at h'
      rw [List.getElem?_set_ne (Ne.symm ha)] at h
      have e : k' = some c := by simpa using h'
      rcases hk' with e' | e'
      · exact absurd (e.symm.trans e') (hne a c h ha)
      · rw [e'] at e
        cases e
        exact absurd (S.lt _ (List.mem_of_getElem? h)) (Nat.lt_irrefl _)
    · rw [List.getElem?_set_ne (Ne.symm ha)] at h
      rw [List.getElem?_set_ne (Ne.symm hb)] at h'
      exact S.nodup a b c h h'
theorem Rw.owns {k : Option Nat} {e : TypeId} {size n cap : Nat} {xs : List Value} (h : Rw e size n cap xs (k.bind fun b => w.heap[b]?)) (hk : ∀ b, k = some b → b < w.heap.size) : w.ownsRow 0 e size (.slice (at_ k) n cap) n xs := by
  obtain ⟨hl, h⟩ := h
  refine ⟨hl, ?_⟩
  rcases h with ⟨h0, h1, h2⟩ | ⟨cur, hc, r⟩
  · left
    subst h1 h2
    cases k with
    | none => exact ⟨rfl, rfl⟩
    | some b =>
      have := hk b rfl
      simp [this] at h0
  · cases k with
    | none => simp at hc
    | some b => exact .inr ⟨b, cap, cur, rfl, Nat.zero_le _, by simpa using hc, r⟩
theorem Rw.of_owns {e : TypeId} {size n : Nat} {v : Value} {xs : List Value} (h : w.ownsRow 0 e size v n xs) : ∃ (k : Option Nat) (cap : Nat), v = .slice (at_ k) n cap ∧ Rw e size n cap xs (k.bind fun b => w.heap[b]?) ∧ v.ownBlock = k ∧ ∀ b, k = some b → b < w.heap.size := by
  rcases h with ⟨hl, ⟨rfl, rfl⟩ | ⟨g, cap, cur, rfl, _, hg, r⟩⟩
  · exact ⟨none, 0, rfl, ⟨hl, .inl ⟨rfl, rfl, rfl⟩⟩, rfl, fun b h => by cases h⟩
  · exact ⟨some g, cap, rfl, ⟨hl, .inr ⟨cur, by simpa using hg, r⟩⟩, rfl, fun b h => by cases h; exact (Array.getElem?_eq_some_iff.1 hg).1⟩
theorem St.head {k : Option Nat} {p : Option Obj → Prop} (S : St w0 w ex (k :: ks) (p :: ps)) : St w0 w ex [k] [p] := S.pick [0] (by simp) (by simp) (by simp)
theorem St.none_ (S : St w0 w ex ks ps) : St w0 w ex [] [] := S.pick [] (by simp) (by simp) (by simp)
theorem St.oldBlock (S : St w0 w ex ks ps) {b : Nat} {o : Obj} (hb : w0.heap[b]? = some o) (hx : b ∉ ex) : w.heap[b]? = some o :=
  (S.old b (Array.getElem?_eq_some_iff.1 hb).1 hx).trans hb
theorem St.oldCell (S : St w0 w ex ks ps) {b : Nat} {cs : Array Value} {t : TypeId} {fr : Nat × Nat} (hb : w0.heap[b]? = some (.cells cs t fr)) (hx : b ∉ ex) (m : Nat) : w.cell? ((⟨b, 0, none⟩ : Addr).add m) = cs[m]? := by
  rw [add_lit]
  exact cell_of_row w b m cs t fr (S.oldBlock hb hx)
end
end Go.Proofs.Ytdhfiamgmokfbaa.E
