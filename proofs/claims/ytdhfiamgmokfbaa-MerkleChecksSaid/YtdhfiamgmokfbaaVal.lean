/- Lists of numbers as cells; frames with some slots known. It proves no statement by itself. -/
import Derived.Test.YtdhfiamgmokfbaaOps
set_option linter.unusedSimpArgs false
set_option linter.unusedVariables false
namespace Go.Proofs.Ytdhfiamgmokfbaa.E
open Go Go.RowKit

/-! ### A frame of which some slots are known -/
def upds (f : Nat → Value) : List (Nat × Value) → Nat → Value
  | [] => f
  | (d, v) :: l => upds (upd f d v) l
def Holds (f : Nat → Value) : List (Nat × Value) → Prop
  | [] => True
  | (d, v) :: l => f d = v ∧ Holds f l
theorem upds_eq {f : Nat → Value} : ∀ {l : List (Nat × Value)}, Holds f l → f = upds f l
  | [], _ => rfl
  | (d, v) :: l, ⟨h, hl⟩ => by
    show f = upds (upd f d v) l
    rw [upd_eq f d v h]
    exact upds_eq hl

/-! ### Bytes and words -/
def bv (l : List Nat) : List Value := l.map fun (x : Nat) => .int .u8 (x : Int)
def wv (l : List Nat) : List Value := l.map fun (x : Nat) => .int .u32 (x : Int)
def iv (l : List Int) : List Value := l.map fun x => .int .i64 x
@[simp] theorem bv_length (l : List Nat) : (bv l).length = l.length := by simp [bv]
@[simp] theorem wv_length (l : List Nat) : (wv l).length = l.length := by simp [wv]
@[simp] theorem iv_length (l : List Int) : (iv l).length = l.length := by simp [iv]
theorem bv_append (a b : List Nat) : bv (a ++ b) = bv a ++ bv b := by simp [bv]
theorem bv_one (l : List Nat) : ∀ u ∈ bv l, u.oneCell' = true := by
  intro u hu
  obtain ⟨_, _, rfl⟩ := List.mem_map.1 hu
  rfl
theorem wv_one (l : List Nat) : ∀ u ∈ wv l, u.oneCell' = true := by
  intro u hu
  obtain ⟨_, _, rfl⟩ := List.mem_map.1 hu
  rfl
theorem iv_one (l : List Int) : ∀ u ∈ iv l, u.oneCell' = true := by
  intro u hu
  obtain ⟨_, _, rfl⟩ := List.mem_map.1 hu
  rfl
theorem bv_get {l : List Nat} {i : Nat} (h : i < l.length) : (bv l)[i]? = some (.int .u8 (l.getD i 0 : Int)) := by
  simp [bv, List.getD_eq_getElem?_getD, List.getElem?_eq_getElem h]
theorem wv_get {l : List Nat} {i : Nat} (h : i < l.length) : (wv l)[i]? = some (.int .u32 (l.getD i 0 : Int)) := by
  simp [wv, List.getD_eq_getElem?_getD, List.getElem?_eq_getElem h]
theorem iv_get {l : List Int} {i : Nat} (h : i < l.length) : (iv l)[i]? = some (.int .i64 (l.getD i 0)) := by
  simp [iv, List.getD_eq_getElem?_getD, List.getElem?_eq_getElem h]
theorem wv_getA {l : List Nat} {i : Nat} (h : i < l.length) : (wv l).toArray[i]? = some (.int .u32 (l.getD i 0 : Int)) := by
  rw [List.getElem?_toArray]; exact wv_get h
theorem bv_getA {l : List Nat} {i : Nat} (h : i < l.length) : (bv l).toArray[i]? = some (.int .u8 (l.getD i 0 : Int)) := by
  rw [List.getElem?_toArray]; exact bv_get h
theorem wv_set (l : List Nat) (i x : Nat) : (wv l).toArray.setIfInBounds i (.int .u32 (x : Int)) = (wv (l.set i x)).toArray := by
  simp [wv, List.map_set]
theorem bv_set (l : List Nat) (i x : Nat) : (bv l).toArray.setIfInBounds i (.int .u8 (x : Int)) = (bv (l.set i x)).toArray := by
  simp [bv, List.map_set]
theorem bv_take (l : List Nat) (k : Nat) : (bv l).take k = bv (l.take k) := by simp [bv, List.map_take]
theorem bv_drop (l : List Nat) (k : Nat) : (bv l).drop k = bv (l.drop k) := by simp [bv, List.map_drop]
theorem bv_flat (l : List Nat) : ((bv l).flatMap fun v => v.cells.toList) = bv l := by
  induction l with
  | nil => rfl
  | cons x l ih =>
    show [Value.int .u8 (x : Int)] ++ ((bv l).flatMap fun v => v.cells.toList) = _
    rw [ih]
    rfl
theorem bv_cells (l : List Nat) : ∀ v ∈ bv l, v.cells.size = 1 := by
  intro u hu
  obtain ⟨_, _, rfl⟩ := List.mem_map.1 hu
  rfl
theorem bv_inj {a b : List Nat} (h : bv a = bv b) : a = b := by
  have : ∀ x y : Nat, Value.int .u8 (x : Int) = Value.int .u8 (y : Int) → x = y := by
    intro x y h
    injection h with _ h
    omega
  exact List.map_inj_right (fun x y h => this x y h) |>.1 h
theorem bv_eq {a b : List Nat} : bv a = bv b ↔ a = b := by
  constructor
  · intro h
    exact bv_inj h
  · rintro rfl; rfl
/-- a byte of a slice that is read -/
theorem Rd.byte {w : World} {ad : Addr} {n : Nat} {l : List Nat} (R : Rd w 1 (some ad) n (bv l)) {i : Int} (h : 0 ≤ i ∧ i < n) : w.cell? (ad.add (i.toNat * 1)) = some (.int .u8 (l.getD i.toNat 0 : Int)) := by
  have hl : l.length = n := by simpa using R.1
  rw [Nat.mul_one]
  exact R.cell (bv_get (by omega))
end Go.Proofs.Ytdhfiamgmokfbaa.E
