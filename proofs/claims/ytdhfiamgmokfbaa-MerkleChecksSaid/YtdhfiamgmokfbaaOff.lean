/- Slices that lie apart from blocks that a callee turns; bytes put together. It proves no statement by itself. -/
import Derived.Test.YtdhfiamgmokfbaaStr
import Derived.Test.YtdhfiamgmokfbaaBv
set_option linter.unusedSimpArgs false
set_option linter.unusedVariables false
namespace Go.Proofs.Ytdhfiamgmokfbaa.E
open Go Go.RowKit
/-- what a slice shows lies in none of the blocks -/
def Off (A : Option Addr) (n : Nat) (bs : List Nat) : Prop := ∀ ad, A = some ad → 0 < n → ad.block ∉ bs
theorem Off.nil {A : Option Addr} {n : Nat} : Off A n [] := fun _ _ _ h => by cases h
theorem Off.none_ {n : Nat} {bs : List Nat} : Off none n bs := fun _ h => by cases h
theorem Off.zero {A : Option Addr} {bs : List Nat} : Off A 0 bs := fun _ _ h => absurd h (Nat.lt_irrefl 0)
theorem Off.le {A : Option Addr} {n m : Nat} {bs : List Nat} (h : Off A n bs) (hm : m ≤ n) : Off A m bs := fun ad e h0 => h ad e (by omega)
theorem Off.sl {A : Option Addr} {n m c k s : Nat} {bs : List Nat} (h : Off A n bs) (hm : m ≤ n) : Off (if c = k then A else A.map (·.add (k * s))) m bs := by
  intro ad e h0
  split at e
  · exact h ad e (by omega)
  · obtain ⟨a, ha, rfl⟩ := Option.map_eq_some_iff.1 e
    have hb : (a.add (k * s)).block = a.block := by unfold Addr.add; split <;> rfl
    rw [hb]
    exact h a ha (by omega)
section
variable {w0 w w' : World} {ex ex' : List Nat} {ks ks' : List (Option Nat)} {ps ps' : List (Option Obj → Prop)}
theorem St.rdOff (S : St w0 w ex ks ps) {s n : Nat} {A : Option Addr} {xs : List Value} (R : Rd w0 s A n xs) (h : Off A n ex) : Rd w s A n xs := by
  rcases Nat.eq_zero_or_pos n with h0 | h0
  · subst h0
    have : xs = [] := List.eq_nil_of_length_eq_zero (by rw [R.1, Nat.zero_mul])
    subst this
    exact Rd.nil _ _ _
  · exact R.keep S fun ad e => h ad e h0
theorem St.swap {a b : Option Nat} {p q : Option Obj → Prop} (S : St w0 w ex (a :: b :: ks) (p :: q :: ps)) : St w0 w ex (b :: a :: ks) (q :: p :: ps) := by
  let σ : Nat → Nat := fun i => match i with | 0 => 1 | 1 => 0 | i + 2 => i + 2
  have hk : ∀ i : Nat, (b :: a :: ks)[i]? = (a :: b :: ks)[σ i]? := fun i => by match i with | 0 => rfl | 1 => rfl | i + 2 => rfl
  have hp : ∀ i : Nat, (q :: p :: ps)[i]? = (p :: q :: ps)[σ i]? := fun i => by match i with | 0 => rfl | 1 => rfl | i + 2 => rfl
  have hm : ∀ x, x ∈ b :: a :: ks → x ∈ a :: b :: ks := fun x h => by simp only [List.mem_cons] at h ⊢; rcases h with h | h | h <;> simp [h]
  refine ⟨S.os, S.tape, S.output, S.size, S.old, fun i k r h h' => S.own (σ i) k r (by rw [← hk]; exact h) (by rw [← hp]; exact h'), fun x h => S.lt x (hm _ h), fun x h => S.fresh x (hm _ h), fun i j x h h' => ?_⟩
  have e := S.nodup (σ i) (σ j) x (by rw [← hk]; exact h) (by rw [← hk]; exact h')
  match i, j, e with
  | 0, 0, _ => rfl
  | 1, 1, _ => rfl
  | 0, 1, e => simp [σ] at e
  | 1, 0, e => simp [σ] at e
  | 0, j + 2, e => simp [σ] at e
  | 1, j + 2, e => simp [σ] at e
  | i + 2, 0, e => simp [σ] at e
  | i + 2, 1, e => simp [σ] at e
  | i + 2, j + 2, e => simpa [σ] using e
theorem St.offOld (S : St w0 w ex ks ps) (σ : List Nat) {s n : Nat} {A : Option Addr} {xs : List Value} (R : Rd w0 s A n xs) (hs : 0 < s) (h : Off A n ex) (hσ : (σ.all fun i => Nat.blt i ks.length) = true) : Off A n (exOf (σ.map fun i => ks.getD i none)) := by
  intro ad e h0 hm
  obtain ⟨i, hi, hk⟩ := List.mem_map.1 (mem_exOf.1 hm)
  have hlt : i < ks.length := by simpa [Nat.blt_eq] using List.all_eq_true.1 hσ i hi
  have hk' : some ad.block ∈ ks := by
    rw [List.getD_eq_getElem?_getD, List.getElem?_eq_getElem hlt] at hk
    rw [← hk]
    exact List.getElem_mem hlt
  obtain ⟨ad', e', hc⟩ := R.2 0 (xs[0]'(by rw [R.1]; exact Nat.mul_pos h0 hs)) (List.getElem?_eq_getElem _)
  rw [e] at e'
  cases e'
  have hlt0 := World.block_lt_of_cell? _ _ hc
  rw [add_zero] at hlt0
  rcases S.fresh _ hk' with h1 | h1
  · omega
  · exact h ad e h0 h1
theorem St.offRow (S : St w0 w ex ks ps) (j : Nat) (σ : List Nat) {n : Nat} {k : Option Nat} (hj : ks[j]? = some k) (hσ : (σ.all fun i => Nat.blt i ks.length && !Nat.beq i j) = true) : Off (at_ k) n (exOf (σ.map fun i => ks.getD i none)) := by
  intro ad e h0 hm
  obtain ⟨i, hi, hk⟩ := List.mem_map.1 (mem_exOf.1 hm)
  have hh := List.all_eq_true.1 hσ i hi
  simp only [Bool.and_eq_true, Nat.blt_eq, Bool.not_eq_true'] at hh
  have hij : ¬ i = j := fun e => by subst e; simp at hh
  rw [List.getD_eq_getElem?_getD, List.getElem?_eq_getElem hh.1] at hk
  cases k with
  | none => cases e
  | some b =>
    have e1 : ad = ⟨b, 0, none⟩ := by simpa using e.symm
    subst e1
    exact hij (S.nodup i j b (by rw [List.getElem?_eq_getElem hh.1]; exact congrArg some hk) hj)
theorem St.offBlk (S : St w0 w ex ks ps) (j : Nat) (σ : List Nat) {n b o : Nat} (hj : ks[j]? = some (some b)) (hσ : (σ.all fun i => Nat.blt i ks.length && !Nat.beq i j) = true) : Off (some ((⟨b, 0, none⟩ : Addr).add o)) n (exOf (σ.map fun i => ks.getD i none)) := by
  have h := S.offRow j σ (n := n) hj hσ
  intro ad e h0
  cases e
  have hb : ((⟨b, 0, none⟩ : Addr).add o).block = b := by unfold Addr.add; split <;> rfl
  rw [hb]
  exact h _ rfl h0
theorem St.offBlk0 (S : St w0 w ex ks ps) (j : Nat) (σ : List Nat) {n b : Nat} (hj : ks[j]? = some (some b)) (hσ : (σ.all fun i => Nat.blt i ks.length && !Nat.beq i j) = true) : Off (some (⟨b, 0, none⟩ : Addr)) n (exOf (σ.map fun i => ks.getD i none)) := S.offRow j σ (k := some b) hj hσ
end
section
variable {P : Program} {ρ : Operand → Value} {d : Option Tmp} {x y : Operand} {t ty yt : TypeId} {ps : String} {af : Array Edge} {g : Option (Nat × Bool)} {w w0 : World} {k : IntKind} {m n : Nat}
theorem bits_or8 {a b : Nat} (ha : a < 256) (hb : b < 256) : bits .or .u8 (a : Int) (b : Int) = ((a ||| b : Nat) : Int) := by
  have h := Nat.or_lt_two_pow (n := 8) ha hb
  show IntKind.u8.wrap ((BitVec.ofInt 8 (a : Int) ||| BitVec.ofInt 8 (b : Int)).toNat : Int) = _
  rw [BitVec.toNat_or, ofInt_nat, ofInt_nat, wrap8_nat, Nat.mod_eq_of_lt ha, Nat.mod_eq_of_lt hb, Nat.mod_eq_of_lt h]
theorem e_or8 (hx : ρ x = .int .u8 (m : Int)) (hy : ρ y = .int .u8 (n : Int)) (hm : m < 256) (hn : n < 256) : (execOp ρ { dst := d, op := .binOp .or t x y yt, type := ty, pos := ps, after := af, guard := g }).run P w = .ok (.value (.int .u8 ((m ||| n : Nat) : Int))) w :=
  e_int .or hx hy fun w => congrArg (fun z => Result.ok (Value.int .u8 z) w) (bits_or8 hm hn)
theorem bits_and8 {a b : Nat} (ha : a < 256) (hb : b < 256) : bits .and .u8 (a : Int) (b : Int) = ((a &&& b : Nat) : Int) := by
  have h : a &&& b < 256 := Nat.lt_of_le_of_lt Nat.and_le_left ha
  show IntKind.u8.wrap ((BitVec.ofInt 8 (a : Int) &&& BitVec.ofInt 8 (b : Int)).toNat : Int) = _
  rw [BitVec.toNat_and, ofInt_nat, ofInt_nat, wrap8_nat, Nat.mod_eq_of_lt ha, Nat.mod_eq_of_lt hb, Nat.mod_eq_of_lt h]
theorem e_and8 (hx : ρ x = .int .u8 (m : Int)) (hy : ρ y = .int .u8 (n : Int)) (hm : m < 256) (hn : n < 256) : (execOp ρ { dst := d, op := .binOp .and t x y yt, type := ty, pos := ps, after := af, guard := g }).run P w = .ok (.value (.int .u8 ((m &&& n : Nat) : Int))) w :=
  e_int .and hx hy fun w => congrArg (fun z => Result.ok (Value.int .u8 z) w) (bits_and8 hm hn)
theorem bits_or64 {a b : Nat} (ha : a < 18446744073709551616) (hb : b < 18446744073709551616) : bits .or .u64 (a : Int) (b : Int) = ((a ||| b : Nat) : Int) := by
  have h := Nat.or_lt_two_pow (n := 64) ha hb
  show IntKind.u64.wrap ((BitVec.ofInt 64 (a : Int) ||| BitVec.ofInt 64 (b : Int)).toNat : Int) = _
  rw [BitVec.toNat_or, ofInt_nat, ofInt_nat, wrapU64, Nat.mod_eq_of_lt ha, Nat.mod_eq_of_lt hb, Nat.mod_eq_of_lt h]
theorem e_or64 (hx : ρ x = .int .u64 (m : Int)) (hy : ρ y = .int .u64 (n : Int)) (hm : m < 18446744073709551616) (hn : n < 18446744073709551616) : (execOp ρ { dst := d, op := .binOp .or t x y yt, type := ty, pos := ps, after := af, guard := g }).run P w = .ok (.value (.int .u64 ((m ||| n : Nat) : Int))) w :=
  e_int .or hx hy fun w => congrArg (fun z => Result.ok (Value.int .u64 z) w) (bits_or64 hm hn)
theorem e_shlU64 {yk : IntKind} (n : Nat) (hx : ρ x = .int .u64 (m : Int)) (hy : ρ y = .int yk (n : Int)) (hn : n ≤ 64) : (execOp ρ { dst := d, op := .binOp .shl t x y yt, type := ty, pos := ps, after := af, guard := g }).run P w = .ok (.value (.int .u64 (((m <<< n) % 18446744073709551616 : Nat) : Int))) w :=
  run_bin (by
    intro w
    rw [hx, hy]
    have h : min n 64 = n := by omega
    simp only [binOp, Op.shift, Int.toNat_natCast, IntKind.bits, h]
    rw [if_neg (by omega)]
    simp only [Sem.run_pure, Nat.shiftLeft_eq]
    have e : ((m : Int) * 2 ^ n) = ((m * 2 ^ n : Nat) : Int) := by simp
    rw [e, wrapU64]) (by intro w; rw [hx]; rfl)
end
theorem or128 {x : Nat} (h : x < 256) : x ||| 128 = x % 128 + 128 := by
  have e : x = x / 128 * 128 + x % 128 := by omega
  have h1 : x / 128 < 2 := by omega
  have key : ∀ y : Nat, y < 128 → (y ||| 128 = y + 128) ∧ ((128 + y) ||| 128 = y + 128) := by decide
  have h2 := key (x % 128) (Nat.mod_lt _ (by decide))
  rcases (by omega : x / 128 = 0 ∨ x / 128 = 1) with h3 | h3
  · rw [show x ||| 128 = (x % 128) ||| 128 by rw [show x % 128 = x by omega]]; exact h2.1
  · rw [show x ||| 128 = (128 + x % 128) ||| 128 by rw [show 128 + x % 128 = x by omega]]; exact h2.2
/-! numbers as bytes -/
def vnum (v : Nat) : List Nat := if h : v < 128 then [v] else (v % 128 + 128) :: vnum (v / 128)
termination_by v
decreasing_by omega
theorem vnum_small {v : Nat} (h : v < 128) : vnum v = [v] := by rw [vnum, dif_pos h]
theorem vnum_big {v : Nat} (h : ¬ v < 128) : vnum v = (v % 128 + 128) :: vnum (v / 128) := by rw [vnum, dif_neg h]
theorem vnum_len : ∀ (k v : Nat), v < 128 ^ (k + 1) → (vnum v).length ≤ k + 1
  | 0, v, h => by rw [vnum_small (by simpa using h)]; simp
  | k + 1, v, h => by
    by_cases hv : v < 128
    · rw [vnum_small hv]; simp
    · rw [vnum_big hv, List.length_cons]
      have := vnum_len k (v / 128) (by rw [Nat.div_lt_iff_lt_mul (by decide)]; rw [Nat.pow_succ] at h; exact h)
      omega
theorem vnum_lt : ∀ (v : Nat), ∀ x ∈ vnum v, x < 256 := by
  intro v
  induction v using Nat.strongRecOn with
  | _ v ih =>
    intro x hx
    by_cases hv : v < 128
    · rw [vnum_small hv] at hx; simp at hx; omega
    · rw [vnum_big hv] at hx
      rcases List.mem_cons.1 hx with h | h
      · omega
      · exact ih (v / 128) (by omega) x h
@[irreducible] def num (a : Int) : List Nat := vnum (a.toNat % 18446744073709551616)
theorem num_len (a : Int) : (num a).length ≤ 10 := by
  unfold num
  exact vnum_len 9 _ (Nat.lt_of_lt_of_le (Nat.mod_lt _ (by decide) : a.toNat % 18446744073709551616 < 18446744073709551616) (by decide))
theorem num_lt (a : Int) : ∀ x ∈ num a, x < 256 := by unfold num; exact vnum_lt _
def nums (l : List Int) : List Nat := l.flatMap num
theorem nums_take (xs : List Int) {g : Nat} (h : g < xs.length) : nums (xs.take (g + 1)) = nums (xs.take g) ++ num (xs.getD g 0) := by
  rw [List.take_add_one, List.getElem?_eq_getElem h, List.getD_eq_getElem?_getD, List.getElem?_eq_getElem h]
  unfold nums
  rw [List.flatMap_append]
  simp
theorem nums_len (l : List Int) : (nums l).length ≤ 10 * l.length := by
  induction l with
  | nil => simp [nums]
  | cons a l ih =>
    have := num_len a
    simp only [nums, List.flatMap_cons, List.length_append, List.length_cons] at ih ⊢
    omega
section
variable {w0 w : World} {ex : List Nat} {ks : List (Option Nat)} {ps : List (Option Obj → Prop)}
theorem St.pen {b : Nat} {k : Option Nat} {n c : Nat} {xs : List Value} {T e : TypeId} {l : List Nat} (S : St w0 w ex (some b :: k :: ks) (Ex (cat [[.slice (at_ k) n c]]).toArray T :: Rw e 1 n c xs :: ps)) (h : xs = bv l) :
    St w0 w ex (some b :: k :: ks) (Ex (cat [[.slice (at_ k) l.length c]]).toArray T :: Rw e 1 l.length c (bv l) :: ps) := by
  have h1 := (S.own 1 _ _ rfl rfl).1
  subst h
  rw [bv_length, Nat.mul_one] at h1
  subst h1
  exact S
end
end Go.Proofs.Ytdhfiamgmokfbaa.E
