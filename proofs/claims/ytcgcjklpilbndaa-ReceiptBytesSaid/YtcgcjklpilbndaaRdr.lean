/- What a reader of bytes does, as functions on lists; where its slice lies. It proves no statement by itself. -/
import Derived.Test.YtcgcjklpilbndaaOff
import Derived.Test.YtcgcjklpilbndaaArgs
set_option linter.unusedSimpArgs false
set_option linter.unusedVariables false
namespace Go.Proofs.Ytcgcjklpilbndaa.E
open Go Go.RowKit
def rFail (x e : Int) : Int := if e = 0 then x else e
def rn : Nat → Nat → Nat → List Nat → Int ⊕ (Nat × List Nat)
  | 0, _, _, _ => .inl 5
  | _ + 1, _, _, [] => .inl 2
  | r + 1, i, v, c :: l => if c < 128 then (if c = 0 ∧ 0 < i then .inl 4 else .inr (v + c % 128 * 128 ^ i, l)) else rn r (i + 1) (v + c % 128 * 128 ^ i) l
def rNum (e : Int) (l : List Nat) : Int × Int × List Nat :=
  if e = 0 then (match rn 9 0 0 l with | .inl x => (0, x, l) | .inr (v, l') => ((v : Int), 0, l')) else (0, e, l)
def rUpto (m e : Int) (l : List Nat) : Int × Int × List Nat :=
  let e2 := if m < (rNum e l).1 then rFail 5 (rNum e l).2.1 else (rNum e l).2.1
  (if e2 = 0 then (rNum e l).1 else 0, e2, (rNum e l).2.2)
def rRaw (k e : Int) (l : List Nat) : List Nat × Int × List Nat :=
  if e = 0 then (if k < 0 ∨ (l.length : Int) < k then ([], 2, l) else (l.take k.toNat, 0, l.drop k.toNat)) else ([], e, l)
def rText (m e : Int) (l : List Nat) : List Nat × Int × List Nat := rRaw (rUpto m e l).1 (rUpto m e l).2.1 (rUpto m e l).2.2
def sum32 (b : List Nat) : List Nat := if b.length = 32 then b else zsum
def rSum (e : Int) (l : List Nat) : List Nat × Int × List Nat := (sum32 (rRaw 32 e l).1, (rRaw 32 e l).2)
def rDone (e : Int) (l : List Nat) : Int := if e = 0 ∧ 0 < l.length then 3 else e
theorem length_sum32 (b : List Nat) : (sum32 b).length = 32 := by unfold sum32; split <;> simp_all [zsum]
theorem rNum_no {e : Int} (h : ¬ e = 0) (l : List Nat) : rNum e l = (0, e, l) := by unfold rNum; rw [if_neg h]
theorem rNum_inl {l : List Nat} {x : Int} (h : rn 9 0 0 l = .inl x) : rNum 0 l = (0, x, l) := by unfold rNum; rw [if_pos rfl, h]
theorem rNum_inr {l l' : List Nat} {v : Nat} (h : rn 9 0 0 l = .inr (v, l')) : rNum 0 l = ((v : Int), 0, l') := by unfold rNum; rw [if_pos rfl, h]
theorem drop_cons {l : List Nat} {g : Nat} (h : g < l.length) : l.drop g = l.getD g 0 :: l.drop (g + 1) := by
  rw [List.drop_eq_getElem_cons h, List.getD_eq_getElem?_getD, List.getElem?_eq_getElem h]; rfl
theorem and127 (c : Nat) : c &&& 127 = c % 128 := Nat.and_two_pow_sub_one_eq_mod c 7
theorem pow128 {g : Nat} (h : g ≤ 8) : 128 ^ g ≤ 72057594037927936 := by
  have : 128 ^ g ≤ 128 ^ 8 := Nat.pow_le_pow_right (by decide) h
  exact Nat.le_trans this (by decide)
theorem mul128 {c g : Nat} (h : g ≤ 8) : c % 128 * 128 ^ g ≤ 9151314442816847872 := by
  have h1 := pow128 h
  have h2 : c % 128 ≤ 127 := by omega
  exact Nat.le_trans (Nat.mul_le_mul h2 h1) (by decide)
theorem or_step {v c g : Nat} (hv : v < 128 ^ g) (hg : g ≤ 8) : v ||| ((((c &&& 127) % 18446744073709551616) <<< (7 * g)) % 18446744073709551616) = v + c % 128 * 128 ^ g := by
  have h1 := mul128 (c := c) hg
  have e1 : 2 ^ (7 * g) = 128 ^ g := by rw [Nat.pow_mul]
  rw [and127, Nat.mod_eq_of_lt (a := c % 128) (by omega), Nat.shiftLeft_eq, e1, Nat.mod_eq_of_lt (by omega), Nat.or_comm]
  have := Nat.shiftLeft_add_eq_or_of_lt (b := v) (i := 7 * g) (by rw [e1]; exact hv) (c % 128)
  rw [Nat.shiftLeft_eq, e1] at this
  omega
theorem next128 {v c g : Nat} (hv : v < 128 ^ g) : v + c % 128 * 128 ^ g < 128 ^ (g + 1) := by
  have h2 : c % 128 ≤ 127 := by omega
  have := Nat.mul_le_mul_right (128 ^ g) h2
  rw [Nat.pow_succ]; omega
structure EyeTo (A : Option Addr) (c : Nat) (l : List Nat) (A1 : Option Addr) (c1 : Nat) (l1 : List Nat) : Prop where
  suf : l1 <:+ l
  cap : l1.length ≤ c1
  rd : ∀ w, Rd w 1 A l.length (bv l) → Rd w 1 A1 l1.length (bv l1)
  off : ∀ bs, Off A l.length bs → Off A1 l1.length bs
theorem EyeTo.refl {A : Option Addr} {c : Nat} {l : List Nat} (h : l.length ≤ c) : EyeTo A c l A c l := ⟨List.suffix_refl _, h, fun _ h => h, fun _ h => h⟩
theorem EyeTo.trans {A A1 A2 : Option Addr} {c c1 c2 : Nat} {l l1 l2 : List Nat} (h : EyeTo A c l A1 c1 l1) (h' : EyeTo A1 c1 l1 A2 c2 l2) : EyeTo A c l A2 c2 l2 :=
  ⟨h'.suf.trans h.suf, h'.cap, fun w R => h'.rd w (h.rd w R), fun b o => h'.off b (h.off b o)⟩
theorem EyeTo.drop {A : Option Addr} {c m : Nat} {l : List Nat} (hm : m ≤ l.length) (hc : l.length ≤ c) : EyeTo A c l (if c = m then A else A.map (·.add (m * 1))) (c - m) (l.drop m) :=
  ⟨List.drop_suffix _ _, by rw [List.length_drop]; omega, fun w R => by
    have h := R.drop hm hc
    rw [bv_drop, Nat.mul_one] at h
    rw [List.length_drop]
    simpa [Nat.mul_one] using h, fun b o => o.sl (by rw [List.length_drop]; omega)⟩
theorem EyeTo.by_ {A A1 : Option Addr} {c c1 : Nat} {l l1 : List Nat} (h : EyeTo A c l A1 c1 l1) (hB : Bytes l) : Bytes l1 := fun x hx => hB x (h.suf.subset hx)
theorem EyeTo.len {A A1 : Option Addr} {c c1 m : Nat} {l l1 : List Nat} (h : EyeTo A c l A1 c1 l1) (hl : l.length ≤ m) : l1.length ≤ m := Nat.le_trans h.suf.length_le hl
theorem bytes_getD {l : List Nat} (h : Bytes l) (i : Nat) : l.getD i 0 < 256 := by
  rw [List.getD_eq_getElem?_getD]
  rcases Nat.lt_or_ge i l.length with h1 | h1
  · rw [List.getElem?_eq_getElem h1]; exact h _ (List.getElem_mem h1)
  · rw [List.getElem?_eq_none h1]; decide
theorem rRaw_len {k e e1 : Int} {l b l1 : List Nat} (h : rRaw k e l = (b, e1, l1)) : b = [] ∨ b.length = k.toNat := by
  unfold rRaw at h
  split at h
  · split at h
    · simp only [Prod.mk.injEq] at h; exact .inl h.1.symm
    · rename_i h1
      simp only [Prod.mk.injEq] at h
      right
      rw [← h.1, List.length_take]; omega
  · simp only [Prod.mk.injEq] at h; exact .inl h.1.symm
theorem copy_sum32 {b : List Nat} (h : b = [] ∨ b.length = (32 : Int).toNat) : ((bv b).take 32 ++ (bv zsum).toArray.toList.drop (min b.length 32)).toArray = (bv (sum32 b)).toArray := by
  have e32 : (32 : Int).toNat = 32 := rfl
  rw [e32] at h
  unfold sum32
  rcases h with rfl | h
  · rw [if_neg (by decide)]; simp [bv]
  · rw [if_pos h]
    have h1 : (bv b).take 32 = bv b := List.take_of_length_le (by simp [h])
    have h2 : (bv zsum).drop (min b.length 32) = [] := List.drop_of_length_le (by simp [zsum, h])
    show ((bv b).take 32 ++ (bv zsum).drop (min b.length 32)).toArray = _
    rw [h1, h2, List.append_nil]
section
variable {w0 w : World} {ex : List Nat} {ks : List (Option Nat)} {ps : List (Option Obj → Prop)}
/-- an entry's cells, told in other words -/
theorem St.set1Ex (S : St w0 w ex ks ps) (i : Nat) {cs cs' : Array Value} {t : TypeId} (hp : ps[i]? = some (Ex cs t)) (h : cs = cs') : St w0 w ex ks (ps.set i (Ex cs' t)) := by
  subst h
  exact S.mono i _ _ hp fun _ h => h
end
theorem rUpto_of {m e a e1 e2 : Int} {l l1 : List Nat} (h : rNum e l = (a, e1, l1)) (h2 : e2 = if m < a then rFail 5 e1 else e1) : rUpto m e l = (if e2 = 0 then a else 0, e2, l1) := by
  unfold rUpto; rw [h, h2]
theorem rText_of {m e a e1 e2 : Int} {l l1 b l2 : List Nat} (h : rUpto m e l = (a, e1, l1)) (h2 : rRaw a e1 l1 = (b, e2, l2)) : rText m e l = (b, e2, l2) := by
  unfold rText; rw [h]; exact h2
theorem rSum_of {e e1 : Int} {l b l1 : List Nat} (h : rRaw 32 e l = (b, e1, l1)) : rSum e l = (sum32 b, e1, l1) := by
  unfold rSum; rw [h]
end Go.Proofs.Ytcgcjklpilbndaa.E
