/- More laws on single operations and on memory for walks. It proves no statement by itself. -/
import Derived.Test.YtdhfiamgmokfbaaOps
import Derived.Test.YtdhfiamgmokfbaaVal
import Derived.ChangeKeysEq
set_option linter.unusedSimpArgs false
set_option linter.unusedVariables false
namespace Go.Proofs.Ytdhfiamgmokfbaa.E
open Go Go.RowKit

/-! ### A callee that turns some of the caller's own blocks -/
def blank {α : Type} (z : α) (l : List α) (is : List Nat) : List α := is.foldl (fun l i => l.set i z) l
section
variable {w0 w w' : World} {ex ex' : List Nat} {ks ks' : List (Option Nat)} {ps ps' : List (Option Obj → Prop)}
theorem St.forget (S : St w0 w ex ks ps) (i : Nat) : St w0 w ex (ks.set i none) (ps.set i fun _ => True) := by
  refine ⟨S.os, S.tape, S.output, S.size, S.old, fun j k p h h' => ?_, fun b h => ?_, fun b h => ?_, fun j j' b h h' => ?_⟩
  · by_cases hij : i = j
    · subst hij
      have hl : i < ps.length := by have := (List.getElem?_eq_some_iff.1 h').1; simpa using this
      rw [List.getElem?_set_self hl] at h'
      cases h'
      trivial
    · rw [List.getElem?_set_ne hij] at h h'
      exact S.own j k p h h'
  · rcases List.mem_or_eq_of_mem_set h with h | h
    · exact S.lt b h
    · cases h
  · rcases List.mem_or_eq_of_mem_set h with h | h
    · exact S.fresh b h
    · cases h
  · have key : ∀ j : Nat, (ks.set i none)[j]? = some (some b) → ks[j]? = some (some b) := by
      intro j h
      by_cases hij : i = j
      · subst hij
        have hl : i < ks.length := by have := (List.getElem?_eq_some_iff.1 h).1; simpa using this
        rw [List.getElem?_set_self hl] at h
        cases h
      · rwa [List.getElem?_set_ne hij] at h
    exact S.nodup j j' b (key j h) (key j' h')
theorem St.forget_not (S : St w0 w ex ks ps) {i b : Nat} (h : ks[i]? = some (some b)) : some b ∉ ks.set i none := by
  intro hm
  obtain ⟨j, hj⟩ := List.getElem?_of_mem hm
  by_cases hij : i = j
  · subst hij
    have hl : i < ks.length := by have := (List.getElem?_eq_some_iff.1 hj).1; simpa using this
    rw [List.getElem?_set_self hl] at hj
    cases hj
  · rw [List.getElem?_set_ne hij] at hj
    exact hij (S.nodup i j b h hj)
theorem not_mem_set {b i : Nat} (h : some b ∉ ks) : some b ∉ ks.set i none := by
  intro hm
  rcases List.mem_or_eq_of_mem_set hm with h' | h'
  · exact h h'
  · cases h'
theorem not_mem_blank {b : Nat} : ∀ {is : List Nat} {ks : List (Option Nat)}, some b ∉ ks → some b ∉ blank none ks is
  | [], _, h => h
  | i :: is, ks, h => not_mem_blank (is := is) (ks := ks.set i none) (not_mem_set h)
theorem St.blank : ∀ {is : List Nat} {ks : List (Option Nat)} {ps : List (Option Obj → Prop)}, St w0 w ex ks ps → St w0 w ex (blank none ks is) (blank (fun _ => True) ps is) ∧ ∀ i ∈ is, ∀ b, ks[i]? = some (some b) → some b ∉ E.blank none ks is
  | [], _, _, S => ⟨S, by simp⟩
  | i :: is, ks, ps, S => by
    obtain ⟨S', h'⟩ := St.blank (is := is) (S.forget i)
    refine ⟨S', fun j hj b hb => ?_⟩
    by_cases hji : j = i
    · subst hji
      exact not_mem_blank (ks := ks.set j none) (S.forget_not hb)
    · rcases List.mem_cons.1 hj with h | h
      · exact absurd h hji
      · exact h' j h b (by rw [List.getElem?_set_ne (Ne.symm hji)]; exact hb)
/-- the callee's own and the blocks it turned, put ahead of what the caller has -/
theorem St.keep (S : St w0 w ex ks ps) (T : St w w' ex' ks' ps') (hl : ps'.length = ks'.length) (hx : ∀ b ∈ ex', some b ∉ ks ∧ (w0.heap.size ≤ b ∨ b ∈ ex)) : St w0 w' ex (ks' ++ ks) (ps' ++ ps) := by
  have hfr : ∀ b, some b ∈ ks' → w0.heap.size ≤ b ∨ b ∈ ex := fun b h => (T.fresh b h).elim (fun h => .inl (Nat.le_trans S.size h)) fun h => (hx b h).2
  have hne : ∀ b, some b ∈ ks' → some b ∉ ks := by
    intro b h h'
    rcases T.fresh b h with h1 | h1
    · have := S.lt b h'
      omega
    · exact (hx b h1).1 h'
  refine ⟨T.os.trans S.os, T.tape.trans S.tape, T.output.trans S.output, Nat.le_trans S.size T.size, fun k hk hkx => ?_, fun i k p' h h' => ?_, fun b h => ?_, fun b h => ?_, fun i j b h h' => ?_⟩
  · have : k ∉ ex' := by
      intro h
      rcases (hx k h).2 with h1 | h1
      · omega
      · exact hkx h1
    rw [T.old k (Nat.lt_of_lt_of_le hk S.size) this, S.old k hk hkx]
  · rcases Nat.lt_or_ge i ks'.length with hi | hi
    · rw [List.getElem?_append_left hi] at h
      rw [List.getElem?_append_left (by omega)] at h'
      exact T.own i k p' h h'
    · rw [List.getElem?_append_right hi] at h
      rw [List.getElem?_append_right (by omega), hl] at h'
      have := S.own _ k p' h h'
      cases k with
      | none => exact this
      | some b =>
        have hm := List.mem_of_getElem? h
        have hnx : b ∉ ex' := fun hb => (hx b hb).1 hm
        simpa [T.old b (S.lt b hm) hnx] using this
  · rcases List.mem_append.1 h with h | h
    · exact T.lt b h
    · exact Nat.lt_of_lt_of_le (S.lt b h) T.size
  · rcases List.mem_append.1 h with h | h
    · exact hfr b h
    · exact S.fresh b h
  · rcases Nat.lt_or_ge i ks'.length with hi | hi <;> rcases Nat.lt_or_ge j ks'.length with hj | hj
    · rw [List.getElem?_append_left hi] at h
      rw [List.getElem?_append_left hj] at h'
      exact T.nodup i j b h h'
    · rw [List.getElem?_append_left hi] at h
      rw [List.getElem?_append_right hj] at h'
      exact absurd (List.mem_of_getElem? h') (hne b (List.mem_of_getElem? h))
    · rw [List.getElem?_append_right hi] at h
      rw [List.getElem?_append_left hj] at h'
      exact absurd (List.mem_of_getElem? h) (hne b (List.mem_of_getElem? h'))
    · rw [List.getElem?_append_right hi] at h
      rw [List.getElem?_append_right hj] at h'
      have := S.nodup _ _ b h h'
      omega
theorem St.sub (S : St w0 w ex ks ps) (T : St w w' ex' ks' ps') (is : List Nat) (hl : ps'.length = ks'.length) (hx : ∀ b ∈ ex', ∃ i ∈ is, ks[i]? = some (some b)) :
    St w0 w' ex (ks' ++ E.blank none ks is) (ps' ++ E.blank (fun _ => True) ps is) := by
  obtain ⟨S', h'⟩ := S.blank (is := is)
  refine S'.keep T hl fun b hb => ?_
  obtain ⟨i, hi, hk⟩ := hx b hb
  exact ⟨h' i hi b hk, S.fresh b (List.mem_of_getElem? hk)⟩
theorem St.sub1 (S : St w0 w ex ks ps) (i : Nat) {b : Nat} (T : St w w' [b] ks' ps') (hk : ks[i]? = some (some b)) (hl : ps'.length = ks'.length) :
    St w0 w' ex (ks' ++ ks.set i none) (ps' ++ ps.set i fun _ => True) :=
  S.sub T [i] hl fun c hc => ⟨i, by simp, by rw [List.mem_singleton.1 hc]; exact hk⟩
theorem St.as1 {k : Option Nat} {e : TypeId} {s n c : Nat} {xs ys : List Value} (S : St w0 w ex [k] [Rw e s n c xs]) (h : xs = ys) : St w0 w ex [k] [Rw e s n c ys] := h ▸ S
theorem St.asEx {e : TypeId} {cs cs' : Array Value} (S : St w0 w ex ks (Ex cs e :: ps)) (h : cs = cs') : St w0 w ex ks (Ex cs' e :: ps) := h ▸ S
theorem St.ne (S : St w0 w ex ks ps) (i j : Nat) {a b : Nat} (hi : ks[i]? = some (some a)) (hj : ks[j]? = some (some b)) (hij : i ≠ j) : a ≠ b := by
  rintro rfl
  exact hij (S.nodup i j a hi hj)
theorem St.at_ne (S : St w0 w ex ks ps) (i j : Nat) {k : Option Nat} {b : Nat} (hi : ks[i]? = some k) (hj : ks[j]? = some (some b)) (hij : i ≠ j) : ∀ ad, at_ k = some ad → ad.block ≠ b := by
  rintro ad h rfl
  cases k with
  | none => cases h
  | some a =>
    cases h
    exact hij (S.nodup i j a hi hj)
theorem St.capRw (S : St w0 w ex ks ps) (i : Nat) {k : Option Nat} {e : TypeId} {size n cap : Nat} {xs : List Value} (hk : ks[i]? = some k) (hp : ps[i]? = some (Rw e size n cap xs)) : n ≤ cap := by
  obtain ⟨_, h⟩ := S.own i _ _ hk hp
  rcases h with ⟨_, h1, h2⟩ | ⟨_, _, h, _⟩ <;> omega
theorem sl_block {A : Option Addr} {c m k b : Nat} (h : ∀ ad, A = some ad → ad.block ≠ b) : ∀ ad, (if c = m then A else A.map (·.add k)) = some ad → ad.block ≠ b := by
  intro ad e
  split at e
  · exact h ad e
  · obtain ⟨a, ha, rfl⟩ := Option.map_eq_some_iff.1 e
    have := h a ha
    have hb : (a.add k).block = a.block := by unfold Addr.add; split <;> rfl
    rw [hb]
    exact this
/-- what is read stays, but for blocks that a callee turns -/
theorem Rd.keep {size n : Nat} {A : Option Addr} {xs : List Value} (h : Rd w size A n xs) (T : St w w' ex' ks' ps') (hA : ∀ ad, A = some ad → ad.block ∉ ex') : Rd w' size A n xs :=
  ⟨h.1, fun j u hu => by
    obtain ⟨ad, e, hc⟩ := h.2 j u hu
    refine ⟨ad, e, (World.cell?_of_block (w := w) ?_).trans hc⟩
    have : (ad.add j).block = ad.block := by unfold Addr.add; split <;> rfl
    have hlt := World.block_lt_of_cell? w _ hc
    rw [this] at hlt ⊢
    exact T.old _ hlt (hA ad e)⟩
end

/-! ### Operations -/
section
variable {P : Program} {ρ : Operand → Value} {d : Option Tmp} {x y : Operand} {t ty yt : TypeId} {ps : String} {af : Array Edge} {g : Option (Nat × Bool)} {w w0 : World} {k : IntKind} {a b : Int} {m n : Nat} {ex : List Nat} {ks : List (Option Nat)} {pp : List (Option Obj → Prop)}
theorem el_of {e : TypeId} {size bytes : Nat} (h : (P.info? e).map (fun i => (i.size, i.bytes, i.zero.map (·.cells.size))) = some (size, bytes, some size)) (hp : 0 < size) : El P e size bytes := by
  obtain ⟨i, hi, e1⟩ := Option.map_eq_some_iff.1 h
  injection e1 with e1 e2
  injection e2 with e2 e3
  obtain ⟨z, hz, e4⟩ := Option.map_eq_some_iff.1 e3
  exact ⟨⟨i, z, hi, hz, e1, e2, e4⟩, hp⟩
theorem wrapU64 (n : Nat) : IntKind.u64.wrap (n : Int) = ((n % 18446744073709551616 : Nat) : Int) := by
  show ((BitVec.ofInt 64 (n : Int)).toNat : Int) = _
  rw [ofInt_nat]
theorem e_conv8 {u : TypeDesc} {s : TypeId} (hx : ρ x = .int k (m : Int)) (hs : P.underlying s = some u) (hu : u ≠ .unsafePointer) (ht : P.underlying t = some (.int .u8)) : (execOp ρ { dst := d, op := .convert s t x, type := ty, pos := ps, after := af, guard := g }).run P w = .ok (.value (.int .u8 ((m % 256 : Nat) : Int))) w :=
  e_conv_in hx hs hu ht (wrap8_nat m)
theorem e_convU64 {u : TypeDesc} {s : TypeId} (hx : ρ x = .int k (m : Int)) (hs : P.underlying s = some u) (hu : u ≠ .unsafePointer) (ht : P.underlying t = some (.int .u64)) : (execOp ρ { dst := d, op := .convert s t x, type := ty, pos := ps, after := af, guard := g }).run P w = .ok (.value (.int .u64 ((m % 18446744073709551616 : Nat) : Int))) w :=
  e_conv_in hx hs hu ht (wrapU64 m)
theorem e_mulU64 (hx : ρ x = .int .u64 (m : Int)) (hy : ρ y = .int .u64 (n : Int)) : (execOp ρ { dst := d, op := .binOp .mul t x y yt, type := ty, pos := ps, after := af, guard := g }).run P w = .ok (.value (.int .u64 ((m * n % 18446744073709551616 : Nat) : Int))) w :=
  e_int .mul hx hy fun w => by
    have h : IntKind.u64.wrap ((m : Int) * (n : Int)) = ((m * n % 18446744073709551616 : Nat) : Int) := by rw [← Int.natCast_mul]; exact wrapU64 _
    show (Op.intArith .mul .u64 (m : Int) (n : Int)).run P w = _
    unfold Op.intArith
    simp only [h, Sem.run_pure]
theorem e_index {cs : List Value} {len : Nat} {i : Int} {e : TypeId} {v : Value} (hx : ρ x = .agg cs.toArray) (hy : ρ y = .int k i) (hu : P.underlying t = some (.array len e)) (ha : Ag P e false) (hs : Sz P e 1) (hi : 0 ≤ i ∧ i < len) (hv : cs[i.toNat]? = some v) :
    (execOp ρ { dst := d, op := .index t x y, type := ty, pos := ps, after := af, guard := g }).run P w = .ok (.value v) w := by
  have ha' := ha w
  have hs' := hs w
  simp [execOp, hx, hy, Instr.index, asIntOf, run_underlying hu, hi, hs', part, ha', hv]
theorem e_max (hx : ρ x = .int k a) (hy : ρ y = .int k b) : (execOp ρ { dst := d, op := .call { callee := .builtin .max, args := #[x, y], argTypes := #[t, yt] }, type := ty, pos := ps, after := af, guard := g }).run P w = .ok (.value (.int k (if b > a then b else a))) w := by
  show ((do pure (.value (← Builtin.max_ #[t, yt] ty (#[x, y].map ρ)))) : Sem Next).run P w = _
  simp [Builtin.max_, Builtin.max2, hx, hy]
theorem one_flat {size : Nat} : ∀ (vs : List Value), (∀ v ∈ vs, v.oneCell' = true) → (vs.flatMap fun v => v.cells.toList) = vs
  | [], _ => rfl
  | v :: vs, h => by
    have hv := h v (by simp)
    have : v.cells.toList = [v] := by cases v <;> simp_all [Value.oneCell', Value.cells]
    rw [List.flatMap_cons, this, one_flat (size := size) vs fun u hu => h u (by simp [hu])]
    rfl
theorem one_size {v : Value} (h : v.oneCell' = true) : v.cells.size = 1 := by cases v <;> simp_all [Value.oneCell', Value.cells]
/-- a literal of one-celled parts -/
theorem d_lit1 {e : TypeId} {n : Nat} {parts : List (Nat × Operand)} {vs : List Value} {z : Value} (S : St w0 w ex ks pp) (hu : P.underlying t = some (.slice e)) (hs : Sz P e 1) (hz : Zv P e z) (hsz : z.cells.size = 1)
    (hp : parts.map (fun q => (q.1, ρ q.2)) = (List.range' 0 n).zip vs) (hn : vs.length = n) (hv : vs.all (fun v => v.oneCell') = true) (hlim : n ≤ 16777216) :
    Does P ρ { dst := d, op := .buildSlice t n parts.toArray, type := ty, pos := ps, after := af, guard := g } w
      fun v w' => ∃ b, v = .slice (at_ (some b)) n n ∧ St w0 w' ex (some b :: ks) (Rw e 1 n n vs :: pp) := by
  have hv := List.all_eq_true.1 hv
  have h := d_lit (P := P) (ρ := ρ) (d := d) (ty := ty) (ps := ps) (af := af) (g := g) S hu hs hz hsz (by decide) hp hn (fun v h => one_size (hv v h)) (by omega)
  rwa [one_flat (size := 1) vs hv] at h
theorem d_litB {e : TypeId} {n : Nat} {parts : List (Nat × Operand)} {l : List Nat} {z : Value} (S : St w0 w ex ks pp) (hu : P.underlying t = some (.slice e)) (hs : Sz P e 1) (hz : Zv P e z) (hsz : z.cells.size = 1)
    (hp : parts.map (fun q => (q.1, ρ q.2)) = (List.range' 0 n).zip (bv l)) (hn : l.length = n) (hlim : n ≤ 16777216) :
    Does P ρ { dst := d, op := .buildSlice t n parts.toArray, type := ty, pos := ps, after := af, guard := g } w
      fun v w' => ∃ b, v = .slice (at_ (some b)) n n ∧ St w0 w' ex (some b :: ks) (Rw e 1 n n (bv l) :: pp) :=
  d_lit1 S hu hs hz hsz hp (by simpa using hn) (List.all_eq_true.2 (bv_one l)) hlim

/-! ### Equality of values of several cells -/
/-- Two values of a type with cells as T tells are compared cell by cell. -/
def EqT (P : Program) (j : Nat) (t : TypeId) (T : List Value → Prop) : Prop :=
  ∀ (d : Nat) (w : World) (xs ys : List Value), T xs → T ys → ∃ r : Bool, (Op.equalIn (d + j) t (.agg xs.toArray) (.agg ys.toArray)).run P w = .ok r w ∧ (r = true ↔ xs = ys)
def IntT (k : IntKind) (n : Nat) (xs : List Value) : Prop := xs.length = n ∧ ∀ v ∈ xs, ∃ a, v = .int k a
theorem IntT.bv (l : List Nat) {n : Nat} (h : l.length = n) : IntT .u8 n (bv l) := ⟨by simpa using h, fun v hv => by
  obtain ⟨x, _, rfl⟩ := List.mem_map.1 hv
  exact ⟨_, rfl⟩⟩
theorem eqItems_int {e : TypeId} (hu : P.underlying e = some (.int k)) (ha : Ag P e false) (d : Nat) (xs ys : List Value) (hx : ∀ v ∈ xs, ∃ a, v = .int k a) (hy : ∀ v ∈ ys, ∃ a, v = .int k a) (hl : xs.length = ys.length) :
    ∀ (n i : Nat), i + n = xs.length → ∃ r : Bool, (Op.eqItems (d + 1) e 1 xs.toArray ys.toArray (List.range' i n)).run P w = .ok r w ∧ (r = true ↔ xs.drop i = ys.drop i)
  | 0, i, h => ⟨true, by simp [Op.eqItems], by rw [List.drop_of_length_le (by omega), List.drop_of_length_le (by omega)]; simp⟩
  | n + 1, i, h => by
    have h1 : i < xs.length := by omega
    have h2 : i < ys.length := by omega
    obtain ⟨a, ea⟩ := hx xs[i] (List.getElem_mem h1)
    obtain ⟨b, eb⟩ := hy ys[i] (List.getElem_mem h2)
    have p1 : (part e xs.toArray (i * 1)).run P w = .ok (.int k a) w := by
      have ha' := ha w
      simp [part, ha', List.getElem?_eq_getElem h1, ea]
    have p2 : (part e ys.toArray (i * 1)).run P w = .ok (.int k b) w := by
      have ha' := ha w
      simp [part, ha', List.getElem?_eq_getElem h2, eb]
    have p3 : (Op.equalIn (d + 1) e (.int k a) (.int k b)).run P w = .ok (a == b) w := by simp [Op.equalIn, run_underlying hu]
    obtain ⟨r, hr, hiff⟩ := eqItems_int hu ha d xs ys hx hy hl n (i + 1) (by omega)
    rw [List.range'_succ]
    have e1 : xs.drop i = .int k a :: xs.drop (i + 1) := by rw [List.drop_eq_getElem_cons h1, ea]
    have e2 : ys.drop i = .int k b :: ys.drop (i + 1) := by rw [List.drop_eq_getElem_cons h2, eb]
    simp only [Op.eqItems, Sem.run_bind, p1, p2, p3, Result.andThen_ok]
    by_cases hab : a = b
    · refine ⟨r, by simpa [hab] using hr, ?_⟩
      rw [hiff, e1, e2, hab]
      simp
    · refine ⟨false, by simp [hab], ?_⟩
      rw [e1, e2]
      simp [hab]
theorem EqT.ints {e : TypeId} {n : Nat} (ht : P.underlying t = some (.array n e)) (hu : P.underlying e = some (.int k)) (ha : Ag P e false) (hs : Sz P e 1) : EqT P 2 t (IntT k n) := by
  intro d w xs ys hx hy
  obtain ⟨i, hi⟩ := info_of_underlying hu
  have hc : P.cellsOf e = 1 := by
    have := hs w
    rw [run_sizeOf w hi] at this
    injection this
  obtain ⟨r, hr, hiff⟩ := eqItems_int (w := w) hu ha d xs ys hx.2 hy.2 (hx.1.trans hy.1.symm) n 0 (by rw [hx.1]; omega)
  refine ⟨r, ?_, by simpa using hiff⟩
  rw [show d + 2 = (d + 1) + 1 from rfl, run_equalIn_array w (d + 1) xs.toArray ys.toArray ht hi, hc, List.range_eq_range']
  exact hr
theorem bin_eql {v v' : Value} {r : Bool} (h : (Op.equalIn (9999 + 1) t v v').run P w = .ok r w) (hb : ∀ op : BinOp, op = .eql → binOp op t v v' = do pure (.bool (← Op.equal t v v'))) : (binOp .eql t v v').run P w = .ok (.bool r) w := by
  rw [hb .eql rfl]
  simp only [Op.equal, Op.maxDepth]
  simp [h]
theorem bin_neq {v v' : Value} {r : Bool} (h : (Op.equalIn (9999 + 1) t v v').run P w = .ok r w) (hb : ∀ op : BinOp, op = .neq → binOp op t v v' = do pure (.bool (!(← Op.equal t v v')))) : (binOp .neq t v v').run P w = .ok (.bool !r) w := by
  rw [hb .neq rfl]
  simp only [Op.equal, Op.maxDepth]
  simp [h]
theorem EqT.run {j : Nat} {T : List Value → Prop} (h : EqT P j t T) (hj : j ≤ 10000) (hg : P.eqGuardType P.depth t = false) {xs ys : List Value} (hx : ρ x = .agg xs.toArray) (hy : ρ y = .agg ys.toArray) (tx : T xs) (ty' : T ys) {r : Bool} (hr : r = true ↔ xs = ys) :
    (execOp ρ { dst := d, op := .binOp .eql t x y yt, type := ty, pos := ps, after := af, guard := g }).run P w = .ok (.value (.bool r)) w := by
  refine run_bin (fun w => ?_) (fun w => ?_)
  · obtain ⟨r', h', hiff⟩ := h (10000 - j) w xs ys tx ty'
    rw [show 10000 - j + j = 10000 by omega] at h'
    have : r = r' := by cases r <;> cases r' <;> simp_all
    subst this
    rw [hx, hy]
    exact bin_eql h' fun op h => by subst h; rfl
  · rw [hx, hy]
    simp [eqGuard, hg]
theorem EqT.runN {j : Nat} {T : List Value → Prop} (h : EqT P j t T) (hj : j ≤ 10000) (hg : P.eqGuardType P.depth t = false) {xs ys : List Value} (hx : ρ x = .agg xs.toArray) (hy : ρ y = .agg ys.toArray) (tx : T xs) (ty' : T ys) {r : Bool} (hr : r = true ↔ ¬ xs = ys) :
    (execOp ρ { dst := d, op := .binOp .neq t x y yt, type := ty, pos := ps, after := af, guard := g }).run P w = .ok (.value (.bool r)) w := by
  refine run_bin (fun w => ?_) (fun w => ?_)
  · obtain ⟨r', h', hiff⟩ := h (10000 - j) w xs ys tx ty'
    rw [show 10000 - j + j = 10000 by omega] at h'
    have : r = !r' := by cases r <;> cases r' <;> simp_all
    subst this
    rw [hx, hy]
    exact bin_neq h' fun op h => by subst h; rfl
  · rw [hx, hy]
    simp [eqGuard, hg]
theorem equalB (d : Nat) (w : World) {u v : Bool} (ht : P.underlying t = some .bool) : (Op.equalIn (d + 1) t (.bool u) (.bool v)).run P w = .ok (u == v) w := by simp [Op.equalIn, run_underlying ht]
theorem equalP (d : Nat) (w : World) {u : Option Addr} {e : TypeId} (ht : P.underlying t = some (.pointer e)) : (Op.equalIn (d + 1) t (.pointer u) (.pointer none)).run P w = .ok u.isNone w := by
  cases u <;> simp [Op.equalIn, run_underlying ht]
theorem e_eqlB {u v : Bool} (hx : ρ x = .bool u) (hy : ρ y = .bool v) (ht : P.underlying t = some .bool) : (execOp ρ { dst := d, op := .binOp .eql t x y yt, type := ty, pos := ps, after := af, guard := g }).run P w = .ok (.value (.bool (u == v))) w :=
  run_bin (fun w => by rw [hx, hy]; exact bin_eql (equalB 9999 w ht) fun op h => by subst h; rfl) (fun w => by rw [hx, hy]; rfl)
theorem e_neqB {u v : Bool} (hx : ρ x = .bool u) (hy : ρ y = .bool v) (ht : P.underlying t = some .bool) : (execOp ρ { dst := d, op := .binOp .neq t x y yt, type := ty, pos := ps, after := af, guard := g }).run P w = .ok (.value (.bool (!(u == v)))) w :=
  run_bin (fun w => by rw [hx, hy]; exact bin_neq (equalB 9999 w ht) fun op h => by subst h; rfl) (fun w => by rw [hx, hy]; rfl)
theorem EqT.sum {a b : List Nat} (h : EqT P 2 t (IntT .u8 n)) (hg : P.eqGuardType P.depth t = false) (hx : ρ x = .agg (bv a).toArray) (hy : ρ y = .agg (bv b).toArray) (ha : a.length = n) (hb : b.length = n) :
    (execOp ρ { dst := d, op := .binOp .eql t x y yt, type := ty, pos := ps, after := af, guard := g }).run P w = .ok (.value (.bool (decide (a = b)))) w :=
  h.run (by decide) hg hx hy (IntT.bv a ha) (IntT.bv b hb) (by simp [bv_eq])
theorem EqT.sumN {a b : List Nat} (h : EqT P 2 t (IntT .u8 n)) (hg : P.eqGuardType P.depth t = false) (hx : ρ x = .agg (bv a).toArray) (hy : ρ y = .agg (bv b).toArray) (ha : a.length = n) (hb : b.length = n) :
    (execOp ρ { dst := d, op := .binOp .neq t x y yt, type := ty, pos := ps, after := af, guard := g }).run P w = .ok (.value (.bool (decide (¬ a = b)))) w :=
  h.runN (by decide) hg hx hy (IntT.bv a ha) (IntT.bv b hb) (by simp [bv_eq])
/-- a pointer is, or is not, nil -/
theorem e_eqlP {u : Option Addr} {e : TypeId} (hx : ρ x = .pointer u) (hy : ρ y = .pointer none) (ht : P.underlying t = some (.pointer e)) : (execOp ρ { dst := d, op := .binOp .eql t x y yt, type := ty, pos := ps, after := af, guard := g }).run P w = .ok (.value (.bool u.isNone)) w :=
  run_bin (fun w => by rw [hx, hy]; exact bin_eql (equalP 9999 w ht) fun op h => by subst h; rfl) (fun w => by rw [hx, hy]; rfl)
theorem e_neqP {u : Option Addr} {e : TypeId} (hx : ρ x = .pointer u) (hy : ρ y = .pointer none) (ht : P.underlying t = some (.pointer e)) : (execOp ρ { dst := d, op := .binOp .neq t x y yt, type := ty, pos := ps, after := af, guard := g }).run P w = .ok (.value (.bool (!u.isNone))) w :=
  run_bin (fun w => by rw [hx, hy]; exact bin_neq (equalP 9999 w ht) fun op h => by subst h; rfl) (fun w => by rw [hx, hy]; rfl)
theorem e_eqlS {u v : ByteArray} (hx : ρ x = .string u) (hy : ρ y = .string v) : (execOp ρ { dst := d, op := .binOp .eql t x y yt, type := ty, pos := ps, after := af, guard := g }).run P w = .ok (.value (.bool (u == v))) w :=
  run_bin (fun w => by rw [hx, hy]; simp [binOp, Op.stringOp, beq_toListBytes, bne]) (fun w => by rw [hx, hy]; rfl)
theorem e_neqS {u v : ByteArray} (hx : ρ x = .string u) (hy : ρ y = .string v) : (execOp ρ { dst := d, op := .binOp .neq t x y yt, type := ty, pos := ps, after := af, guard := g }).run P w = .ok (.value (.bool (u != v))) w :=
  run_bin (fun w => by rw [hx, hy]; simp [binOp, Op.stringOp, beq_toListBytes, bne]) (fun w => by rw [hx, hy]; rfl)
end
end Go.Proofs.Ytdhfiamgmokfbaa.E
