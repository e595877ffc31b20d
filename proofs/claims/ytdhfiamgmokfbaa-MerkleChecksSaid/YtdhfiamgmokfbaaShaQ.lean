/- A block's sum, so written that the kernel carries it out fast, and that it is the block's sum. It proves no statement by itself. -/
import Derived.Test.YtdhfiamgmokfbaaShaP
set_option linter.unusedSimpArgs false
set_option linter.unusedVariables false
namespace Go.Proofs.Ytdhfiamgmokfbaa
open E
/-- the words, the newest first -/
def grow : Nat → List Nat → List Nat
  | 0, l => l
  | n + 1, l =>
    let x := l.getD 14 0
    let y := l.getD 1 0
    grow n (add32 (add32 (add32 (l.getD 15 0) (xor32 (xor32 (rotr 7 x) (rotr 18 x)) (shr32 x 3))) (l.getD 6 0)) (xor32 (xor32 (rotr 17 y) (rotr 19 y)) (shr32 y 10)) :: l)
def run : List (Nat × Nat) → St8 → St8
  | [], v => v
  | (k, w) :: l, v => run l (rnd v k w)
def words (b : List Nat) : List Nat := (List.range 16).map (word b)
def blockQ (h : St8) (b : List Nat) : St8 := add8 h (run (K.zip (grow 48 (words b).reverse).reverse) h)
theorem run_append : ∀ (a b : List (Nat × Nat)) (v : St8), run (a ++ b) v = run b (run a v)
  | [], _, _ => rfl
  | (k, w) :: a, b, v => run_append a b (rnd v k w)
theorem rounds_run (ws : List Nat) (v : St8) (hw : ws.length = 64) : ∀ n, n ≤ 64 → rounds ws v n = run ((K.zip ws).take n) v
  | 0, _ => by simp [rounds, run]
  | n + 1, h => by
    have hl : n < (K.zip ws).length := by rw [List.length_zip, hw]; simp only [K, List.length_cons, List.length_nil]; omega
    have hk : n < K.length := by simp only [K, List.length_cons, List.length_nil]; omega
    rw [rounds, rounds_run ws v hw n (by omega), List.take_add_one, List.getElem?_eq_getElem hl, List.getElem_zip, run_append]
    simp only [Option.toList, run, List.getD_eq_getElem?_getD, List.getElem?_eq_getElem hk, List.getElem?_eq_getElem (show n < ws.length by omega), Option.getD_some]
def stepQ (l : List Nat) : Nat :=
  let x := l.getD 14 0
  let y := l.getD 1 0
  add32 (add32 (add32 (l.getD 15 0) (xor32 (xor32 (rotr 7 x) (rotr 18 x)) (shr32 x 3))) (l.getD 6 0)) (xor32 (xor32 (rotr 17 y) (rotr 19 y)) (shr32 y 10))
theorem rev_getD (l : List Nat) (n i j : Nat) (h : i + j + 1 = n) (hl : n ≤ l.length) : ((l.take n).reverse).getD i 0 = l.getD j 0 := by
  rw [List.getD_eq_getElem?_getD, List.getD_eq_getElem?_getD, List.getElem?_reverse (by rw [List.length_take]; omega), List.length_take, List.getElem?_take, if_pos (by omega)]
  congr 2
  omega
theorem stepQ_eq (b : List Nat) (j : Nat) (hj : j < 48) : stepQ ((sp2 b j).take (16 + j)).reverse = nxt (sp2 b j) (16 + j) := by
  have hl := length_sp2 b j
  unfold stepQ nxt
  rw [rev_getD _ _ 14 (16 + j - 15) (by omega) (by omega), rev_getD _ _ 1 (16 + j - 2) (by omega) (by omega), rev_getD _ _ 15 (16 + j - 16) (by omega) (by omega), rev_getD _ _ 6 (16 + j - 7) (by omega) (by omega)]
theorem grow_eq (b : List Nat) : ∀ n j, j + n ≤ 48 → grow n ((sp2 b j).take (16 + j)).reverse = ((sp2 b (j + n)).take (16 + j + n)).reverse
  | 0, j, _ => rfl
  | n + 1, j, h => by
    have hl := length_sp2 b j
    have e : stepQ ((sp2 b j).take (16 + j)).reverse :: ((sp2 b j).take (16 + j)).reverse = ((sp2 b (j + 1)).take (16 + (j + 1))).reverse := by
      rw [stepQ_eq b j (by omega), ← List.reverse_concat]
      congr 1
      show _ = ((sp2 b j).set (16 + j) (nxt (sp2 b j) (16 + j))).take (16 + j + 1)
      rw [List.take_add_one, List.take_set_of_le (by omega), List.getElem?_set_self (by omega)]
      rfl
    show grow n (stepQ ((sp2 b j).take (16 + j)).reverse :: ((sp2 b j).take (16 + j)).reverse) = _
    rw [e, grow_eq b n (j + 1) (by omega), show j + 1 + n = j + (n + 1) by omega, show 16 + (j + 1) + n = 16 + j + (n + 1) by omega]
theorem words_eq (b : List Nat) : words b = (sp1 b 16).take 16 := rfl
theorem block_eq (h : St8) (b : List Nat) : block h b = blockQ h b := by
  have e := grow_eq b 48 0 (by omega)
  have hl := length_sp2 b 48
  unfold block blockQ
  rw [rounds_run _ _ (length_spread b) 64 (by omega), words_eq]
  have e2 : (grow 48 ((sp1 b 16).take 16).reverse).reverse = spread b := by
    have e3 : grow 48 ((sp1 b 16).take 16).reverse = ((sp2 b 48).take 64).reverse := e
    rw [e3, List.reverse_reverse, List.take_of_length_le (by omega)]
    rfl
  rw [e2, List.take_of_length_le (by rw [List.length_zip, length_spread]; simp only [K, List.length_cons, List.length_nil]; omega)]
end Go.Proofs.Ytdhfiamgmokfbaa
