/- Sums, so written that the kernel carries them out fast. It proves no statement by itself. -/
import Derived.Test.YtdhfiamgmokfbaaShaQ
set_option linter.unusedSimpArgs false
set_option linter.unusedVariables false
namespace Go.Proofs.Ytdhfiamgmokfbaa
open E
def hqf {α : Type} (f : α → List Nat → α) : Nat → List Nat → α → α
  | 0, _, v => v
  | n + 1, p, v => hqf f n (p.drop 64) (f v (p.take 64))
theorem hqf_succ {α : Type} (f : α → List Nat → α) : ∀ (n : Nat) (p : List Nat) (v : α), hqf f (n + 1) p v = f (hqf f n p v) ((p.drop (64 * n)).take 64)
  | 0, p, v => rfl
  | n + 1, p, v => by
    show hqf f (n + 1) (p.drop 64) (f v (p.take 64)) = _
    rw [hqf_succ f n, List.drop_drop, show 64 + 64 * n = 64 * (n + 1) by omega]
    rfl
theorem hashes_hqf (f : St8 → List Nat → St8) (hf : ∀ h b, block h b = f h b) (p : List Nat) : ∀ n, hashes p n = hqf f n p first
  | 0 => rfl
  | n + 1 => by rw [hashes, hashes_hqf f hf p n, hf, hqf_succ]
def sumQ (l : List Nat) : List Nat := outB (s8 (hqf blockQ ((pad l).length / 64) (pad l) first)) 8
theorem sumOf_Q (l : List Nat) : sumOf l = sumQ l := by
  unfold sumOf sumQ
  rw [hashes_hqf blockQ block_eq]
theorem join_Q (tag : Nat) (ls : List (List Nat)) : join tag ls = sumQ (joinB tag ls ls.length) := by
  unfold join
  rw [sumOf_Q]
end Go.Proofs.Ytdhfiamgmokfbaa
