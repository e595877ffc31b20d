/- What a path leads to, and that no path of another length leads anywhere. It proves no statement by itself. -/
import Derived.Test.YtdhfiamgmokfbaaMer5
set_option linter.unusedSimpArgs false
set_option linter.unusedVariables false
namespace Go.Proofs.Ytdhfiamgmokfbaa
open Go Go.RowKit E
theorem sidx_add2 (b : Nat) : sidx (b + 2) = sidx b + 2 := by
  unfold sidx
  split <;> split <;> omega
theorem upL_getD : ∀ (l : List (List Nat)) (b : Nat), b < l.length → (upL l).getD (b / 2) [] = if sidx b < l.length then (if b % 2 = 0 then mpair (l.getD b []) (l.getD (sidx b) []) else mpair (l.getD (sidx b) []) (l.getD b [])) else l.getD b []
  | [], b, h => by simp at h
  | [x], b, h => by
    obtain rfl : b = 0 := by simpa using h
    simp [upL, sidx]
  | x :: y :: l, 0, h => by simp [upL, sidx]
  | x :: y :: l, 1, h => by simp [upL, sidx]
  | x :: y :: l, b + 2, h => by
    have ih := upL_getD l b (by simp only [List.length_cons] at h; omega)
    rw [sidx_add2, show (b + 2) / 2 = b / 2 + 1 by omega, show (b + 2) % 2 = b % 2 by omega, upL, List.getD_cons_succ, ih]
    simp only [List.getD_cons_succ, List.length_cons, Nat.add_assoc, Nat.reduceAdd, Nat.add_lt_add_iff_right]
theorem climb_path : ∀ (m : Nat) (l : List (List Nat)) (b : Nat), l.length = m → b < l.length → climbC (l.getD b []) b l.length (pathI l b) = some (rootI l) := by
  intro m
  induction m using Nat.strongRecOn with
  | _ m ih =>
    intro l b hm hb
    by_cases h1 : l.length ≤ 1
    · have hb0 : b = 0 := by omega
      rw [pathI_one h1, climbC_end h1, rootI_head (by omega), hb0]
    · have e := upL_getD l b hb
      have hu := upL_length l
      have hi := ih (upL l).length (by omega) (upL l) (b / 2) rfl (by omega)
      rw [pathI_up h1, rootI_up h1]
      unfold sib
      by_cases hs : sidx b < l.length
      · rw [if_pos hs] at e
        rw [if_pos hs]
        show climbC _ b l.length (l.getD (sidx b) [] :: pathI (upL l) (b / 2)) = _
        rw [climbC_cons h1 hs, ← e, ← hu]
        exact hi
      · rw [if_neg hs] at e
        rw [if_neg hs, List.nil_append, climbC_no h1 hs, ← e, ← hu]
        exact hi
theorem climb_len : ∀ (m n b : Nat) (now now' : List Nat) (Q Q' : List (List Nat)) (x x' : List Nat), n = m → climbC now b n Q = some x → climbC now' b n Q' = some x' → Q.length = Q'.length := by
  intro m
  induction m using Nat.strongRecOn with
  | _ m ih =>
    intro n b now now' Q Q' x x' hm h h'
    by_cases h1 : n ≤ 1
    · rw [climbC_end h1] at h h'
      cases Q with
      | nil => cases Q' with
        | nil => rfl
        | cons _ _ => cases h'
      | cons _ _ => cases h
    · by_cases hs : sidx b < n
      · cases Q with
        | nil => rw [climbC_nil h1 hs] at h; cases h
        | cons q Q => cases Q' with
          | nil => rw [climbC_nil h1 hs] at h'; cases h'
          | cons q' Q' =>
            rw [climbC_cons h1 hs] at h h'
            have := ih ((n + 1) / 2) (by omega) _ _ _ _ _ _ _ _ rfl h h'
            simp only [List.length_cons, this]
      · rw [climbC_no h1 hs] at h h'
        exact ih ((n + 1) / 2) (by omega) _ _ _ _ _ _ _ _ rfl h h'
theorem mcheck_path {M : List (List Nat)} {i : Nat} (hi : i < M.length) (hn : M.length ≤ 4096) : mcheck (mroot M) (M.getD i []) (i : Int) (M.length : Int) (mpath M (i : Int)) := by
  refine ⟨by omega, by omega, by omega, ?_⟩
  have h := climb_path _ (M.map mleaf) i rfl (by simpa using hi)
  have e : (M.map mleaf).getD i [] = mleaf (M.getD i []) := by
    rw [List.getD_eq_getElem?_getD, List.getD_eq_getElem?_getD, List.getElem?_map, List.getElem?_eq_getElem hi]; rfl
  rw [e, List.length_map] at h
  rw [Int.toNat_natCast, Int.toNat_natCast]
  unfold mpath mroot
  rw [if_pos (by omega), if_neg (by omega), Int.toNat_natCast]
  exact h
theorem mcheck_no {M : List (List Nat)} {i : Nat} (hi : i < M.length) (hn : M.length ≤ 4096) {Q : List (List Nat)} (hq : ¬ Q.length = (mpath M (i : Int)).length) (r : List Nat) : ¬ mcheck r (M.getD i []) (i : Int) (M.length : Int) Q := fun h =>
  hq (climb_len _ _ _ _ _ _ _ _ _ rfl h.2.2.2 (mcheck_path hi hn).2.2.2)
theorem mk_check_n (w0 : World) (r s : List Nat) (a m : Int) (A : Option Addr) (n c : Nat) (P : List (List Nat)) (hn : P.length = n) (hr : r.length = 32) (hs : s.length = 32) (R : Rd w0 32 A n (sv P)) (hP0 : All32 P) (cR : n ≤ c) :
     Ret Try.prog 38 [.agg (bv r).toArray, .agg (bv s).toArray, .int .i64 a, .int .i64 m, .slice A n c] w0 fun v w' => v = .bool (decide (mcheck r s a m P)) ∧ Below w0.heap.size w0 w' := by
  subst hn; exact mk_check w0 r s a m A c P hr hs R hP0 cR
end Go.Proofs.Ytdhfiamgmokfbaa
