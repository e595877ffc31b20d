/- What the program sums, as a function on natural numbers: SHA-256. It proves no statement by itself. -/
import Derived.Test.YtdhfiamgmokfbaaOps
set_option linter.unusedVariables false
namespace Go.Proofs.Ytdhfiamgmokfbaa
open E
def rotr (n x : Nat) : Nat := or32 (shl32 x (32 - n)) (shr32 x n)
def word (b : List Nat) (i : Nat) : Nat :=
  or32 (or32 (or32 (shl32 (b.getD (4 * i) 0 % 4294967296) 24) (shl32 (b.getD (4 * i + 1) 0 % 4294967296) 16)) (shl32 (b.getD (4 * i + 2) 0 % 4294967296) 8)) (b.getD (4 * i + 3) 0 % 4294967296)
def sp1 (b : List Nat) : Nat → List Nat
  | 0 => List.replicate 64 0
  | n + 1 => (sp1 b n).set n (word b n)
def nxt (l : List Nat) (i : Nat) : Nat :=
  let x := l.getD (i - 15) 0
  let y := l.getD (i - 2) 0
  let s := xor32 (xor32 (rotr 7 x) (rotr 18 x)) (shr32 x 3)
  let t := xor32 (xor32 (rotr 17 y) (rotr 19 y)) (shr32 y 10)
  add32 (add32 (add32 (l.getD (i - 16) 0) s) (l.getD (i - 7) 0)) t
def sp2 (b : List Nat) : Nat → List Nat
  | 0 => sp1 b 16
  | n + 1 => (sp2 b n).set (16 + n) (nxt (sp2 b n) (16 + n))
def spread (b : List Nat) : List Nat := sp2 b 48
structure St8 where
  (a b c d e f g h : Nat)
def K : List Nat := [
 0x428a2f98, 0x71374491, 0xb5c0fbcf, 0xe9b5dba5, 0x3956c25b, 0x59f111f1, 0x923f82a4, 0xab1c5ed5,
 0xd807aa98, 0x12835b01, 0x243185be, 0x550c7dc3, 0x72be5d74, 0x80deb1fe, 0x9bdc06a7, 0xc19bf174,
 0xe49b69c1, 0xefbe4786, 0x0fc19dc6, 0x240ca1cc, 0x2de92c6f, 0x4a7484aa, 0x5cb0a9dc, 0x76f988da,
 0x983e5152, 0xa831c66d, 0xb00327c8, 0xbf597fc7, 0xc6e00bf3, 0xd5a79147, 0x06ca6351, 0x14292967,
 0x27b70a85, 0x2e1b2138, 0x4d2c6dfc, 0x53380d13, 0x650a7354, 0x766a0abb, 0x81c2c92e, 0x92722c85,
 0xa2bfe8a1, 0xa81a664b, 0xc24b8b70, 0xc76c51a3, 0xd192e819, 0xd6990624, 0xf40e3585, 0x106aa070,
 0x19a4c116, 0x1e376c08, 0x2748774c, 0x34b0bcb5, 0x391c0cb3, 0x4ed8aa4a, 0x5b9cca4f, 0x682e6ff3,
 0x748f82ee, 0x78a5636f, 0x84c87814, 0x8cc70208, 0x90befffa, 0xa4506ceb, 0xbef9a3f7, 0xc67178f2]
def rnd (v : St8) (k w : Nat) : St8 :=
  let s := xor32 (xor32 (rotr 6 v.e) (rotr 11 v.e)) (rotr 25 v.e)
  let t := add32 (add32 (add32 (add32 v.h s) (xor32 (and32 v.e v.f) (and32 (not32 v.e) v.g))) k) w
  let u := add32 (xor32 (xor32 (rotr 2 v.a) (rotr 13 v.a)) (rotr 22 v.a)) (xor32 (xor32 (and32 v.a v.b) (and32 v.a v.c)) (and32 v.b v.c))
  ⟨add32 t u, v.a, v.b, v.c, add32 v.d t, v.e, v.f, v.g⟩
def rounds (ws : List Nat) (v : St8) : Nat → St8
  | 0 => v
  | n + 1 => rnd (rounds ws v n) (K.getD n 0) (ws.getD n 0)
def add8 (x y : St8) : St8 := ⟨add32 x.a y.a, add32 x.b y.b, add32 x.c y.c, add32 x.d y.d, add32 x.e y.e, add32 x.f y.f, add32 x.g y.g, add32 x.h y.h⟩
def block (h : St8) (b : List Nat) : St8 := add8 h (rounds (spread b) h 64)
def first : St8 := ⟨0x6a09e667, 0xbb67ae85, 0x3c6ef372, 0xa54ff53a, 0x510e527f, 0x9b05688c, 0x1f83d9ab, 0x5be0cd19⟩

def s8 (v : St8) : List Nat := [v.a, v.b, v.c, v.d, v.e, v.f, v.g, v.h]
def addTo (h v : List Nat) : Nat → List Nat
  | 0 => h
  | n + 1 => (addTo h v n).set n (add32 ((addTo h v n).getD n 0) (v.getD n 0))
theorem length_addTo (h v : List Nat) : ∀ n, (addTo h v n).length = h.length
  | 0 => rfl
  | n + 1 => by simp [addTo, length_addTo h v n]
theorem addTo_8 (h v : St8) : addTo (s8 h) (s8 v) 8 = s8 (add8 h v) := rfl
theorem length_sp1 (b : List Nat) : ∀ n, (sp1 b n).length = 64
  | 0 => by simp [sp1]
  | n + 1 => by simp [sp1, length_sp1 b n]
theorem length_sp2 (b : List Nat) : ∀ n, (sp2 b n).length = 64
  | 0 => length_sp1 b 16
  | n + 1 => by simp [sp2, length_sp2 b n]
theorem length_spread (b : List Nat) : (spread b).length = 64 := length_sp2 b 48
def len8 (N : Nat) : Nat → List Nat
  | 0 => []
  | k + 1 => len8 N k ++ [(N >>> (56 - 8 * k)) % 256]
def padTo (l : List Nat) (j : Nat) : List Nat := l ++ [128] ++ List.replicate j 0
def padZ (n : Nat) : Nat := (119 - n % 64) % 64
def pad (l : List Nat) : List Nat := padTo l (padZ l.length) ++ len8 (l.length % 18446744073709551616 * 8 % 18446744073709551616) 8
theorem length_len8 (N : Nat) : ∀ k, (len8 N k).length = k
  | 0 => rfl
  | k + 1 => by simp [len8, length_len8 N k]
theorem length_padTo (l : List Nat) (j : Nat) : (padTo l j).length = l.length + 1 + j := by simp [padTo]; omega
theorem length_pad (l : List Nat) : (pad l).length = l.length + 9 + padZ l.length := by simp [pad, length_padTo, length_len8]; omega
theorem padTo_succ (l : List Nat) (j : Nat) : padTo l j ++ [0] = padTo l (j + 1) := by simp [padTo, List.replicate_succ']
def hashes (p : List Nat) : Nat → St8
  | 0 => first
  | g + 1 => block (hashes p g) ((p.drop (64 * g)).take 64)
def outB (h : List Nat) : Nat → List Nat
  | 0 => List.replicate 32 0
  | g + 1 => ((((outB h g).set (4 * g) (shr32 (h.getD g 0) 24 % 256)).set (4 * g + 1) (shr32 (h.getD g 0) 16 % 256)).set (4 * g + 2) (shr32 (h.getD g 0) 8 % 256)).set (4 * g + 3) (h.getD g 0 % 256)
theorem length_outB (h : List Nat) : ∀ g, (outB h g).length = 32
  | 0 => by simp [outB]
  | g + 1 => by simp [outB, length_outB h g]
@[irreducible] def sumOf (l : List Nat) : List Nat := outB (s8 (hashes (pad l) ((pad l).length / 64))) 8
theorem length_sumOf (l : List Nat) : (sumOf l).length = 32 := by unfold sumOf; exact length_outB _ _
def len4 (n : Nat) : List Nat := [(n >>> 24) % 256, (n >>> 16) % 256, (n >>> 8) % 256, n % 256]
def joinB (tag : Nat) (ls : List (List Nat)) : Nat → List Nat
  | 0 => [tag]
  | n + 1 => joinB tag ls n ++ len4 (ls.getD n []).length ++ ls.getD n []
theorem joinB_mono (tag : Nat) (ls : List (List Nat)) : ∀ {m n : Nat}, m ≤ n → (joinB tag ls m).length ≤ (joinB tag ls n).length
  | m, 0, h => by
    obtain rfl : m = 0 := by omega
    exact Nat.le_refl _
  | m, n + 1, h => by
    rcases Nat.lt_or_ge n m with h' | h'
    · obtain rfl : m = n + 1 := by omega
      exact Nat.le_refl _
    · have := joinB_mono tag ls h'
      simp only [joinB, List.length_append]
      omega
@[irreducible] def join (tag : Nat) (ls : List (List Nat)) : List Nat := sumOf (joinB tag ls ls.length)
theorem length_join (tag : Nat) (ls : List (List Nat)) : (join tag ls).length = 32 := by unfold join; exact length_sumOf _
end Go.Proofs.Ytdhfiamgmokfbaa
