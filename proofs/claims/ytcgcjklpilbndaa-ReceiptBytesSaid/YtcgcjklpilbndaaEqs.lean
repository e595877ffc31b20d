/- Equality of structs, part by part. It proves no statement by itself. -/
import Derived.Test.YtcgcjklpilbndaaRdr
import Derived.Laws.StructEq
set_option linter.unusedSimpArgs false
set_option linter.unusedVariables false
namespace Go.Proofs.Ytcgcjklpilbndaa.E
open Go Go.RowKit
def EqV (P : Program) (j : Nat) (t : TypeId) (u v : Value) (p : Prop) : Prop := ∀ (d : Nat) (w : World), ∃ r : Bool, (Op.equalIn (d + j) t u v).run P w = .ok r w ∧ (r = true ↔ p)
def EqFd (P : Program) (j : Nat) (xs ys : Array Value) (fs : List Field) (p : Prop) : Prop := ∀ (d : Nat) (w : World), ∃ r : Bool, (Op.eqFields (d + j) xs ys fs).run P w = .ok r w ∧ (r = true ↔ p)
section
variable {P : Program} {t : TypeId} {j : Nat}
theorem EqV.int {k : IntKind} {a b : Int} (h : P.underlying t = some (.int k)) : EqV P 1 t (.int k a) (.int k b) (a = b) := fun d w =>
  ⟨a == b, by rw [run_equalIn_int w d t k k a b h], by simp⟩
theorem EqV.bool {a b : Bool} (h : P.underlying t = some .bool) : EqV P 1 t (.bool a) (.bool b) (a = b) := fun d w =>
  ⟨a == b, by rw [run_equalIn_bool w d t a b h], by simp⟩
theorem EqV.sum {n : Nat} {a b : List Nat} (h : EqT P 2 t (IntT .u8 n)) (ha : a.length = n) (hb : b.length = n) : EqV P 2 t (.agg (bv a).toArray) (.agg (bv b).toArray) (a = b) := fun d w => by
  obtain ⟨r, hr, hiff⟩ := h d w _ _ (IntT.bv a ha) (IntT.bv b hb)
  exact ⟨r, hr, by rw [hiff, bv_eq]⟩
theorem EqV.more {u v : Value} {p : Prop} (k : Nat) (h : EqV P j t u v p) : EqV P (k + j) t u v p := fun d w => by
  obtain ⟨r, hr, hiff⟩ := h (d + k) w
  exact ⟨r, by rw [← Nat.add_assoc]; exact hr, hiff⟩
theorem EqV.iff {u v : Value} {p q : Prop} (h : EqV P j t u v p) (hq : p ↔ q) : EqV P j t u v q := fun d w => by
  obtain ⟨r, hr, hiff⟩ := h d w
  exact ⟨r, hr, hiff.trans hq⟩
theorem run_part1 {l : List (List Value)} {off a : Nat} {v : Value} (w : World) (ha : Ag P t false) (hl : l[a]? = some [v]) (ho : (cat (l.take a)).length = off) : (part t (cat l).toArray off).run P w = .ok v w := by
  have ha' := ha w
  have h2 : (cat l)[off]? = some v := by
    rw [cat_at hl, List.append_assoc, List.getElem?_append_right (by omega), show off - (cat (l.take a)).length = 0 by omega]; rfl
  simp [part, ha', h2]
theorem run_partA {l : List (List Value)} {off a s : Nat} {xs : List Value} (w : World) (ha : Ag P t true) (hs : Sz P t s) (hl : l[a]? = some xs) (ho : (cat (l.take a)).length = off) (hn : xs.length = s) : (part t (cat l).toArray off).run P w = .ok (.agg xs.toArray) w := by
  have ha' := ha w
  have hs' := hs w
  have h2 : (cat l).toArray.extract off (off + s) = xs.toArray := by
    apply Array.ext'
    rw [Array.toList_extract, List.extract_eq_take_drop]
    show ((cat l).drop off).take _ = _
    rw [cat_at hl, show off + s - off = s by omega, List.append_assoc, ← ho, List.drop_left, ← hn, List.take_left]
  unfold part
  simp only [Sem.run_bind, ha', hs', Result.andThen_ok, if_true, Sem.run_pure, h2]
theorem eqf_nil {xs ys : Array Value} : EqFd P j xs ys [] True := fun d w => ⟨true, by simp [Op.eqFields], by simp⟩
theorem eqf_cons {xs ys : Array Value} {f : Field} {fs : List Field} {u v : Value} {p q : Prop} (hn : (f.name != "_") = true) (hx : ∀ w, (part f.type xs f.offset).run P w = .ok u w) (hy : ∀ w, (part f.type ys f.offset).run P w = .ok v w) (h : EqV P j f.type u v p) (hr : EqFd P j xs ys fs q) :
    EqFd P j xs ys (f :: fs) (p ∧ q) := fun d w => by
  obtain ⟨r, h1, h2⟩ := h d w
  obtain ⟨r', h3, h4⟩ := hr d w
  have hn' : f.name ≠ "_" := by simpa using hn
  simp only [Op.eqFields, if_pos hn', Sem.run_bind, hx, hy, h1, Result.andThen_ok]
  cases r with
  | false => exact ⟨false, by simp, by simp [← h2]⟩
  | true => exact ⟨r', by simpa using h3, by simp [← h2, h4]⟩
theorem EqV.struct {xs ys : Array Value} {p : Prop} {fs : Array Field} (ht : P.underlying t = some (.struct fs)) (hp : P.stoodInHeld t = false) (h : EqFd P j xs ys fs.toList p) : EqV P (j + 1) t (.agg xs) (.agg ys) p := fun d w => by
  have hf : P.fieldsOf t = fs := by simp [Program.fieldsOf, ht]
  obtain ⟨r, hr, hiff⟩ := h d w
  exact ⟨r, by rw [show d + (j + 1) = (d + j) + 1 from rfl, run_equalIn_struct w (d + j) t xs ys (by rw [hf]; exact ht) hp, hf]; exact hr, hiff⟩
variable {ρ : Operand → Value} {d : Option Tmp} {x y : Operand} {ty yt : TypeId} {ps : String} {af : Array Edge} {g : Option (Nat × Bool)} {w : World}
theorem e_eqlV {u v : Array Value} {p : Prop} [Decidable p] (h : EqV P j t (.agg u) (.agg v) p) (hj : j ≤ 10000) (hg : P.eqGuardType P.depth t = false) (hx : ρ x = .agg u) (hy : ρ y = .agg v) :
    (execOp ρ { dst := d, op := .binOp .eql t x y yt, type := ty, pos := ps, after := af, guard := g }).run P w = .ok (.value (.bool (decide p))) w := by
  refine run_bin (fun w => ?_) (fun w => ?_)
  · obtain ⟨r', h', hiff⟩ := h (10000 - j) w
    rw [show 10000 - j + j = 10000 by omega] at h'
    have : r' = decide p := by cases r' <;> by_cases hp : p <;> simp_all
    subst this
    rw [hx, hy]
    exact bin_eql h' fun op h => by subst h; rfl
  · rw [hx, hy]
    simp [eqGuard, hg]
theorem e_neqV {u v : Array Value} {p : Prop} [Decidable p] (h : EqV P j t (.agg u) (.agg v) p) (hj : j ≤ 10000) (hg : P.eqGuardType P.depth t = false) (hx : ρ x = .agg u) (hy : ρ y = .agg v) :
    (execOp ρ { dst := d, op := .binOp .neq t x y yt, type := ty, pos := ps, after := af, guard := g }).run P w = .ok (.value (.bool (decide (¬ p)))) w := by
  refine run_bin (fun w => ?_) (fun w => ?_)
  · obtain ⟨r', h', hiff⟩ := h (10000 - j) w
    rw [show 10000 - j + j = 10000 by omega] at h'
    have : r' = decide p := by cases r' <;> by_cases hp : p <;> simp_all
    subst this
    rw [hx, hy]
    have := bin_neq h' fun op h => by subst h; rfl
    rwa [show (!decide p) = decide (¬ p) by by_cases hp : p <;> simp [hp]] at this
  · rw [hx, hy]
    simp [eqGuard, hg]
end
section
variable {P : Program} {ρ : Operand → Value} {d : Option Tmp} {x y : Operand} {t ty : TypeId} {ps : String} {af : Array Edge} {g : Option (Nat × Bool)} {w w0 : World} {ex : List Nat} {ks : List (Option Nat)} {pp : List (Option Obj → Prop)}
/-- a literal of numbers -/
theorem d_litI {e : TypeId} {n : Nat} {parts : List (Nat × Operand)} {l : List Int} {z : Value} (S : St w0 w ex ks pp) (hu : P.underlying t = some (.slice e)) (hs : Sz P e 1) (hz : Zv P e z) (hsz : z.cells.size = 1)
    (hp : parts.map (fun q => (q.1, ρ q.2)) = (List.range' 0 n).zip (iv l)) (hn : l.length = n) (hlim : n ≤ 16777216) :
    Does P ρ { dst := d, op := .buildSlice t n parts.toArray, type := ty, pos := ps, after := af, guard := g } w
      fun v w' => ∃ b, v = .slice (at_ (some b)) n n ∧ St w0 w' ex (some b :: ks) (Rw e 1 n n (iv l) :: pp) :=
  d_lit1 S hu hs hz hsz hp (by simpa using hn) (List.all_eq_true.2 (iv_one l)) hlim
end
/-! ### What is written is read, and nothing else -/
theorem rn_vnum : ∀ (r i v x : Nat) (rest : List Nat), x < 128 ^ (r + 1) → (0 < i → 0 < x) → rn (r + 1) i v (vnum x ++ rest) = .inr (v + x * 128 ^ i, rest)
  | r, i, v, x, rest, h, hi => by
    by_cases hx : x < 128
    · rw [vnum_small hx]
      show (if x < 128 then (if x = 0 ∧ 0 < i then _ else _) else _) = _
      rw [if_pos hx, if_neg (by omega), Nat.mod_eq_of_lt hx]
      rfl
    · rw [vnum_big hx]
      show (if x % 128 + 128 < 128 then _ else rn r (i + 1) (v + (x % 128 + 128) % 128 * 128 ^ i) (vnum (x / 128) ++ rest)) = _
      rw [if_neg (by omega)]
      match r, h with
      | 0, h => simp at h; omega
      | r + 1, h =>
        rw [rn_vnum r (i + 1) _ (x / 128) rest (by rw [Nat.div_lt_iff_lt_mul (by decide)]; rw [Nat.pow_succ] at h; exact h) (by omega)]
        congr 2
        have e : x = x / 128 * 128 + x % 128 := by omega
        rw [show (x % 128 + 128) % 128 = x % 128 by omega, Nat.pow_succ, Nat.add_assoc]
        congr 1
        conv => rhs; rw [e]
        rw [Nat.add_mul, Nat.mul_comm (128 ^ i) 128, ← Nat.mul_assoc, Nat.add_comm]
theorem rn_inv : ∀ (r i v : Nat) (l : List Nat) (v' : Nat) (l' : List Nat), Bytes l → rn r i v l = .inr (v', l') → ∃ x, l = vnum x ++ l' ∧ v' = v + x * 128 ^ i ∧ x < 128 ^ r ∧ (0 < i → 0 < x)
  | 0, i, v, l, v', l', _, h => by cases h
  | r + 1, i, v, [], v', l', _, h => by cases h
  | r + 1, i, v, c :: l, v', l', hB, h => by
    have hc : c < 256 := hB c (by simp)
    change (if c < 128 then (if c = 0 ∧ 0 < i then _ else _) else _) = _ at h
    by_cases h1 : c < 128
    · rw [if_pos h1] at h
      by_cases h2 : c = 0 ∧ 0 < i
      · rw [if_pos h2] at h; cases h
      · rw [if_neg h2] at h
        simp only [Sum.inr.injEq, Prod.mk.injEq] at h
        refine ⟨c, by rw [vnum_small h1, ← h.2]; rfl, by rw [← h.1, Nat.mod_eq_of_lt h1], ?_, by omega⟩
        have : 0 < 128 ^ r := Nat.pow_pos (by decide)
        rw [Nat.pow_succ]; omega
    · rw [if_neg h1] at h
      obtain ⟨x, e1, e2, e3, e4⟩ := rn_inv r (i + 1) _ l v' l' (fun y hy => hB y (by simp [hy])) h
      have hx := e4 (by omega)
      refine ⟨x * 128 + c % 128, ?_, ?_, ?_, by omega⟩
      · rw [vnum_big (by omega), show (x * 128 + c % 128) % 128 + 128 = c by omega, show (x * 128 + c % 128) / 128 = x by omega, e1]; rfl
      · rw [e2, Nat.pow_succ, Nat.add_mul, Nat.mul_comm (128 ^ i) 128, ← Nat.mul_assoc, Nat.add_assoc, Nat.add_comm (c % 128 * 128 ^ i)]
      · rw [Nat.pow_succ]; omega
theorem rNum_num {a : Int} (h : 0 ≤ a ∧ a < 9223372036854775808) (l : List Nat) : rNum 0 (num a ++ l) = (a, 0, l) := by
  have e1 : a.toNat % 18446744073709551616 = a.toNat := Nat.mod_eq_of_lt (by omega)
  have h9 : rn 9 0 0 (num a ++ l) = .inr (0 + a.toNat * 128 ^ 0, l) := by
    unfold num
    rw [e1]
    exact rn_vnum 8 0 0 a.toNat l (by have e : 128 ^ (8 + 1) = 9223372036854775808 := by decide
                                      rw [e]; omega) (fun h => absurd h (by decide))
  rw [rNum_inr h9]
  simp
  omega
theorem rNum_inv {e a : Int} {l l' : List Nat} (hB : Bytes l) (h : rNum e l = (a, 0, l')) : e = 0 ∧ l = num a ++ l' ∧ 0 ≤ a ∧ a < 9223372036854775808 := by
  unfold rNum at h
  by_cases he : e = 0
  · rw [if_pos he] at h
    refine ⟨he, ?_⟩
    cases hr : rn 9 0 0 l with
    | inl x =>
      rw [hr] at h
      simp only [Prod.mk.injEq] at h
      have : ∀ (r i v : Nat) (l : List Nat), rn r i v l ≠ .inl 0 := by
        intro r
        induction r with
        | zero => intro i v l h; simp [rn] at h
        | succ r ih =>
          intro i v l h
          cases l with
          | nil => simp [rn] at h
          | cons c l =>
            simp only [rn] at h
            split at h
            · split at h
              · simp at h
              · cases h
            · exact ih _ _ _ h
      rw [h.2.1] at hr
      exact absurd hr (this _ _ _ _)
    | inr q =>
      obtain ⟨v, l2⟩ := q
      rw [hr] at h
      simp only [Prod.mk.injEq] at h
      obtain ⟨x, e1, e2, e3, _⟩ := rn_inv 9 0 0 l v l2 hB hr
      have e4 : 128 ^ 9 = 9223372036854775808 := by decide
      rw [e4] at e3
      obtain ⟨h1, _, h3⟩ := h
      subst h3
      have ev : v = x := by rw [e2]; simp
      subst ev
      refine ⟨?_, by omega, by omega⟩
      rw [e1]
      unfold num
      rw [← h1, Int.toNat_natCast, Nat.mod_eq_of_lt (by omega)]
  · rw [if_neg he] at h
    simp only [Prod.mk.injEq] at h
    exact absurd h.2.1 he
theorem rUpto_num {a m : Int} (h : 0 ≤ a ∧ a ≤ m) (hm : m < 9223372036854775808) (l : List Nat) : rUpto m 0 (num a ++ l) = (a, 0, l) := by
  rw [rUpto_of (e2 := 0) (rNum_num ⟨h.1, by omega⟩ l) (by rw [if_neg (by omega)]), if_pos rfl]
theorem rUpto_inv {m e a : Int} {l l' : List Nat} (hB : Bytes l) (h : rUpto m e l = (a, 0, l')) : e = 0 ∧ l = num a ++ l' ∧ 0 ≤ a ∧ a ≤ m ∧ a < 9223372036854775808 := by
  unfold rUpto at h
  simp only [Prod.mk.injEq] at h
  obtain ⟨h1, h2, h3⟩ := h
  rw [if_pos h2] at h1
  have hle : ¬ m < (rNum e l).1 ∧ (rNum e l).2.1 = 0 := by
    split at h2
    · unfold rFail at h2
      split at h2
      · cases h2
      · exact absurd h2 (by assumption)
    · exact ⟨by assumption, h2⟩
  have h5 : rNum e l = (a, 0, l') := by
    rw [← h1, ← h3, ← hle.2]
  obtain ⟨e1, e2, e3, e4⟩ := rNum_inv hB h5
  exact ⟨e1, e2, e3, by rw [← h1]; omega, e4⟩
theorem rSum_sum {s : List Nat} (h : s.length = 32) (l : List Nat) : rSum 0 (s ++ l) = (s, 0, l) := by
  have e : rRaw 32 0 (s ++ l) = (s, 0, l) := by
    unfold rRaw
    rw [if_pos rfl, if_neg (by rw [List.length_append]; omega), show (32 : Int).toNat = s.length by rw [h]; rfl, List.take_left, List.drop_left]
  rw [rSum_of e]
  unfold sum32
  rw [if_pos h]
theorem rRaw_inv {k e : Int} {l b l' : List Nat} (h : rRaw k e l = (b, 0, l')) : e = 0 ∧ l = b ++ l' ∧ b.length = k.toNat ∧ 0 ≤ k := by
  unfold rRaw at h
  split at h
  · rename_i he
    split at h
    · simp at h
    · rename_i h1
      simp only [Prod.mk.injEq] at h
      exact ⟨he, by rw [← h.1, ← h.2.2, List.take_append_drop], by rw [← h.1, List.length_take]; omega, by omega⟩
  · rename_i he
    simp only [Prod.mk.injEq] at h
    exact absurd h.2.1 he
theorem rSum_inv {e : Int} {l s l' : List Nat} (h : rSum e l = (s, 0, l')) : e = 0 ∧ l = s ++ l' ∧ s.length = 32 := by
  unfold rSum at h
  simp only [Prod.mk.injEq] at h
  have h2 : rRaw 32 e l = ((rRaw 32 e l).1, 0, l') := by rw [← h.2]
  obtain ⟨e1, e2, e3, _⟩ := rRaw_inv h2
  have e4 : (rRaw 32 e l).1.length = 32 := e3
  have e5 : s = (rRaw 32 e l).1 := by rw [← h.1]; unfold sum32; rw [if_pos e4]
  exact ⟨e1, by rw [e5]; exact e2, by rw [e5]; exact e4⟩
theorem rText_text {s : List Nat} {m : Int} (h : (s.length : Int) ≤ m) (hm : m < 9223372036854775808) (l : List Nat) : rText m 0 (num s.length ++ (s ++ l)) = (s, 0, l) := by
  rw [rText_of (rUpto_num ⟨by omega, h⟩ hm (s ++ l)) (b := s) (e2 := 0) (l2 := l)]
  unfold rRaw
  rw [if_pos rfl, if_neg (by rw [List.length_append]; omega), Int.toNat_natCast, List.take_left, List.drop_left]
theorem rText_inv {m e : Int} {l s l' : List Nat} (hB : Bytes l) (h : rText m e l = (s, 0, l')) : e = 0 ∧ l = num s.length ++ (s ++ l') ∧ (s.length : Int) ≤ m := by
  unfold rText at h
  obtain ⟨e1, e2, e3, e4⟩ := rRaw_inv h
  have h2 : rUpto m e l = ((rUpto m e l).1, 0, (rUpto m e l).2.2) := by rw [← e1]
  obtain ⟨f1, f2, f3, f4, _⟩ := rUpto_inv hB h2
  have f5 : (rUpto m e l).1 = (s.length : Int) := by omega
  rw [f5] at f2 f4
  exact ⟨f1, by rw [← e2]; exact f2, f4⟩
theorem rText_bytes {m e e1 : Int} {l s l' : List Nat} (hB : Bytes l) (h : rText m e l = (s, e1, l')) : Bytes s := by
  have hs : ∀ (k e : Int) (l : List Nat), Bytes l → Bytes (rRaw k e l).1 := by
    intro k e l hB
    unfold rRaw
    split
    · split
      · intro x hx; simp at hx
      · intro x hx; exact hB x (List.mem_of_mem_take hx)
    · intro x hx; simp at hx
  have hu : ∀ (r i v : Nat) (l : List Nat) (v' : Nat) (l' : List Nat), rn r i v l = .inr (v', l') → ∀ x ∈ l', x ∈ l := by
    intro r
    induction r with
    | zero => intro i v l v' l' h; cases h
    | succ r ih =>
      intro i v l v' l' h
      cases l with
      | nil => cases h
      | cons c l =>
        change (if c < 128 then (if c = 0 ∧ 0 < i then _ else _) else _) = _ at h
        split at h
        · split at h
          · cases h
          · simp only [Sum.inr.injEq, Prod.mk.injEq] at h
            intro x hx
            rw [← h.2] at hx
            exact List.mem_cons_of_mem _ hx
        · intro x hx
          exact List.mem_cons_of_mem _ (ih _ _ _ _ _ h x hx)
  have h2 : Bytes (rUpto m e l).2.2 := by
    show Bytes (rNum e l).2.2
    unfold rNum
    split
    · cases hr : rn 9 0 0 l with
      | inl x => exact hB
      | inr q => exact fun x hx => hB x (hu _ _ _ _ _ _ hr x hx)
    · exact hB
  have := hs (rUpto m e l).1 (rUpto m e l).2.1 _ h2
  unfold rText at h
  rw [h] at this
  exact this
theorem rDone_nil : rDone 0 [] = 0 := rfl
theorem rDone_inv {e : Int} {l : List Nat} (h : rDone e l = 0) : e = 0 ∧ l = [] := by
  unfold rDone at h
  split at h
  · cases h
  · rename_i h1
    exact ⟨h, by cases l with
      | nil => rfl
      | cons a l => exact absurd ⟨h, by simp⟩ h1⟩
end Go.Proofs.Ytcgcjklpilbndaa.E
