/- Parts of slices of bytes that are read. It proves no statement by itself. -/
import Derived.Test.YtdhfiamgmokfbaaVal
namespace Go.Proofs.Ytdhfiamgmokfbaa
open Go Go.RowKit E
theorem Rd.take_bv {w : World} {n m : Nat} {A : Option Addr} {l : List Nat} (h : Rd w 1 A n (bv l)) (hm : m ≤ n) : Rd w 1 A m (bv (l.take m)) := by
  have := h.take hm
  rwa [bv_take, Nat.mul_one] at this
theorem Rd.drop_bv {w : World} {n m c : Nat} {A : Option Addr} {l : List Nat} (h : Rd w 1 A n (bv l)) (hm : m ≤ n) (hc : n ≤ c) : Rd w 1 (if c = m then A else A.map (·.add (m * 1))) (n - m) (bv (l.drop m)) := by
  have := h.drop hm hc
  rwa [bv_drop, show l.drop (m * 1) = l.drop m by rw [Nat.mul_one]] at this
end Go.Proofs.Ytdhfiamgmokfbaa
