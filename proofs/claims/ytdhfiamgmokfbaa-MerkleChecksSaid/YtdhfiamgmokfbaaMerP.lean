/- Lists of sums under one sum, as functions on lists. It proves no statement by itself. -/
import Derived.Test.YtdhfiamgmokfbaaShaP
import Derived.Test.YtdhfiamgmokfbaaOff
set_option linter.unusedSimpArgs false
set_option linter.unusedVariables false
namespace Go.Proofs.Ytdhfiamgmokfbaa
open Go Go.RowKit E
def mleaf (s : List Nat) : List Nat := join 1 [s]
def mpair (a b : List Nat) : List Nat := join 2 [a, b]
theorem length_mleaf (s : List Nat) : (mleaf s).length = 32 := length_join _ _
theorem length_mpair (a b : List Nat) : (mpair a b).length = 32 := length_join _ _
def upL : List (List Nat) → List (List Nat)
  | a :: b :: l => mpair a b :: upL l
  | [a] => [a]
  | [] => []
theorem upL_length : ∀ l : List (List Nat), (upL l).length = (l.length + 1) / 2
  | a :: b :: l => by rw [upL, List.length_cons, upL_length l]; simp only [List.length_cons]; omega
  | [a] => by simp [upL]
  | [] => by simp [upL]
theorem upL_all : ∀ {l : List (List Nat)}, All32 l → All32 (upL l)
  | a :: b :: l, h => by
    intro x hx
    rw [upL] at hx
    rcases List.mem_cons.1 hx with rfl | hx
    · exact length_mpair _ _
    · exact upL_all (l := l) (fun y hy => h y (by simp [hy])) x hx
  | [a], h => h
  | [], h => h
theorem upL_append : ∀ (a b : List (List Nat)), a.length % 2 = 0 → upL (a ++ b) = upL a ++ upL b
  | [], b, _ => rfl
  | [x], b, h => by simp at h
  | x :: y :: a, b, h => by
    show mpair x y :: upL (a ++ b) = mpair x y :: (upL a ++ upL b)
    rw [upL_append a b (by simp only [List.length_cons] at h; omega)]
def rootI (l : List (List Nat)) : List Nat := if h : l.length ≤ 1 then l.headD [] else rootI (upL l)
termination_by l.length
decreasing_by rw [upL_length]; omega
theorem rootI_one (x : List Nat) : rootI [x] = x := by rw [rootI, dif_pos (by simp)]; rfl
theorem rootI_up {l : List (List Nat)} (h : ¬ l.length ≤ 1) : rootI l = rootI (upL l) := by rw [rootI, dif_neg h]
/-- the greatest power of two below -/
def hb (n k : Nat) : Nat := if h : 0 < k ∧ 2 * k < n then hb n (2 * k) else k
termination_by n - k
decreasing_by omega
def half (n : Nat) : Nat := hb n 1
theorem hb_pow (n : Nat) : ∀ (k j : Nat), k = 2 ^ j → k < n → ∃ i, j ≤ i ∧ hb n k = 2 ^ i ∧ 2 ^ i < n ∧ n ≤ 2 ^ (i + 1) := by
  have key : ∀ m k j : Nat, n - k = m → k = 2 ^ j → k < n → ∃ i, j ≤ i ∧ hb n k = 2 ^ i ∧ 2 ^ i < n ∧ n ≤ 2 ^ (i + 1) := by
    intro m
    induction m using Nat.strongRecOn with
    | _ m ih =>
      intro k j hm hk hn
      have hpos : 0 < k := by rw [hk]; exact Nat.pow_pos (by decide)
      by_cases h : 2 * k < n
      · rw [hb, dif_pos ⟨hpos, h⟩]
        obtain ⟨i, h1, h2, h3, h4⟩ := ih (n - 2 * k) (by omega) (2 * k) (j + 1) rfl (by rw [Nat.pow_succ, hk, Nat.mul_comm]) h
        exact ⟨i, by omega, h2, h3, h4⟩
      · rw [hb, dif_neg (fun h' => h h'.2)]
        exact ⟨j, Nat.le_refl _, hk, by omega, by rw [Nat.pow_succ]; omega⟩
  exact fun k j => key _ k j rfl
theorem half_pow {n : Nat} (h : 2 ≤ n) : ∃ i, half n = 2 ^ i ∧ 2 ^ i < n ∧ n ≤ 2 ^ (i + 1) := by
  obtain ⟨i, _, h2, h3, h4⟩ := hb_pow n 1 0 rfl (by omega)
  exact ⟨i, h2, h3, h4⟩
theorem half_lt {n : Nat} (h : 2 ≤ n) : 0 < half n ∧ half n < n := by
  obtain ⟨i, h1, h2, _⟩ := half_pow h
  have : 0 < 2 ^ i := Nat.pow_pos (by decide)
  omega
theorem pow_unique {n i j : Nat} (h1 : 2 ^ i < n) (h2 : n ≤ 2 ^ (i + 1)) (h3 : 2 ^ j < n) (h4 : n ≤ 2 ^ (j + 1)) : i = j := by
  rcases Nat.lt_trichotomy i j with h | h | h
  · have : 2 ^ (i + 1) ≤ 2 ^ j := Nat.pow_le_pow_right (by decide) h
    omega
  · exact h
  · have : 2 ^ (j + 1) ≤ 2 ^ i := Nat.pow_le_pow_right (by decide) h
    omega
theorem half_half {n : Nat} (h : 3 ≤ n) : half n % 2 = 0 ∧ half ((n + 1) / 2) = half n / 2 ∧ 2 ≤ half n := by
  obtain ⟨i, h1, h2, h3⟩ := half_pow (n := n) (by omega)
  obtain ⟨j, k1, k2, k3⟩ := half_pow (n := (n + 1) / 2) (by omega)
  have hi : i ≠ 0 := fun e => by subst e; simp at h3; omega
  obtain ⟨i', rfl⟩ : ∃ i', i = i' + 1 := ⟨i - 1, by omega⟩
  have e1 : 2 ^ (i' + 1) = 2 * 2 ^ i' := by rw [Nat.pow_succ, Nat.mul_comm]
  have e2 : 2 ^ (i' + 1 + 1) = 2 * 2 ^ (i' + 1) := by rw [Nat.pow_succ _ (i' + 1), Nat.mul_comm]
  have hp : 0 < 2 ^ i' := Nat.pow_pos (by decide)
  have : j = i' := pow_unique k2 k3 (by omega) (by omega)
  subst this
  omega
/-- the root as the document has it, of leaves' sums -/
def rec_ (l : List (List Nat)) : List Nat := if h : l.length ≤ 1 then l.headD [] else mpair (rec_ (l.take (half l.length))) (rec_ (l.drop (half l.length)))
termination_by l.length
decreasing_by
  · have := half_lt (n := l.length) (by omega); rw [List.length_take]; omega
  · have := half_lt (n := l.length) (by omega); rw [List.length_drop]; omega
theorem rec_one {l : List (List Nat)} (h : l.length ≤ 1) : rec_ l = l.headD [] := by rw [rec_, dif_pos h]
theorem rec_two {l : List (List Nat)} (h : ¬ l.length ≤ 1) : rec_ l = mpair (rec_ (l.take (half l.length))) (rec_ (l.drop (half l.length))) := by rw [rec_, dif_neg h]
theorem upL_one {l : List (List Nat)} (h : l.length ≤ 1) : upL l = l := by
  match l, h with
  | [], _ => rfl
  | [a], _ => rfl
theorem up_split {l : List (List Nat)} (h : 3 ≤ l.length) : upL l = upL (l.take (half l.length)) ++ upL (l.drop (half l.length)) ∧ (upL (l.take (half l.length))).length = half (upL l).length := by
  obtain ⟨h1, h2, h3⟩ := half_half h
  have h4 := half_lt (n := l.length) (by omega)
  have hl : (l.take (half l.length)).length = half l.length := by rw [List.length_take]; omega
  refine ⟨?_, ?_⟩
  · conv => lhs; rw [← List.take_append_drop (half l.length) l]
    exact upL_append _ _ (by rw [hl]; exact h1)
  · rw [upL_length, upL_length, hl, h2]; omega
theorem rec_up : ∀ (l : List (List Nat)), rec_ (upL l) = rec_ l := by
  have key : ∀ m, ∀ l : List (List Nat), l.length = m → rec_ (upL l) = rec_ l := by
    intro m
    induction m using Nat.strongRecOn with
    | _ m ih =>
      intro l hm
      by_cases h1 : l.length ≤ 1
      · rw [upL_one h1]
      · by_cases h2 : l.length = 2
        · match l, h2 with
          | [a, b], _ =>
            rw [rec_two (l := [a, b]) (by simp)]
            have e : half [a, b].length = 1 := by
              show half 2 = 1
              obtain ⟨i, k1, k2, k3⟩ := half_pow (n := 2) (by omega)
              have := half_lt (n := 2) (by omega)
              omega
            rw [e]
            show rec_ [mpair a b] = _
            rw [rec_one (by simp), rec_one (by simp), rec_one (by simp)]
            rfl
        · obtain ⟨e1, e2⟩ := up_split (l := l) (by omega)
          have hlt := half_lt (n := l.length) (by omega)
          have hu : ¬ (upL l).length ≤ 1 := by rw [upL_length]; omega
          rw [rec_two hu, rec_two h1, ← e2]
          conv => lhs; rw [e1]
          rw [List.take_left, List.drop_left, ih _ (by rw [List.length_take]; omega) (l.take (half l.length)) rfl, ih _ (by rw [List.length_drop]; omega) (l.drop (half l.length)) rfl]
  exact fun l => key _ l rfl
theorem rootI_rec : ∀ (l : List (List Nat)), rootI l = rec_ l := by
  have key : ∀ m, ∀ l : List (List Nat), l.length = m → rootI l = rec_ l := by
    intro m
    induction m using Nat.strongRecOn with
    | _ m ih =>
      intro l hm
      by_cases h1 : l.length ≤ 1
      · rw [rec_one h1, rootI, dif_pos h1]
      · rw [rootI_up h1, ih _ (by rw [upL_length]; omega) (upL l) rfl, rec_up]
  exact fun l => key _ l rfl
/-- what stands beside the way up -/
def sidx (a : Nat) : Nat := if a % 2 = 0 then a + 1 else a - 1
theorem sidx_even {a : Nat} (h : a % 2 = 0) : sidx a = a + 1 := if_pos h
theorem sidx_odd {a : Nat} (h : ¬ a % 2 = 0) : sidx a = a - 1 := if_neg h
def sib (l : List (List Nat)) (a : Nat) : List (List Nat) := if sidx a < l.length then [l.getD (sidx a) []] else []
def pathI (l : List (List Nat)) (a : Nat) : List (List Nat) := if h : l.length ≤ 1 then [] else sib l a ++ pathI (upL l) (a / 2)
termination_by l.length
decreasing_by rw [upL_length]; omega
theorem pathI_one {l : List (List Nat)} (h : l.length ≤ 1) (a : Nat) : pathI l a = [] := by rw [pathI, dif_pos h]
theorem pathI_up {l : List (List Nat)} (h : ¬ l.length ≤ 1) (a : Nat) : pathI l a = sib l a ++ pathI (upL l) (a / 2) := by rw [pathI, dif_neg h]
def recP (l : List (List Nat)) (a : Nat) : List (List Nat) :=
  if h : l.length ≤ 1 then [] else if a < half l.length then recP (l.take (half l.length)) a ++ [rec_ (l.drop (half l.length))] else recP (l.drop (half l.length)) (a - half l.length) ++ [rec_ (l.take (half l.length))]
termination_by l.length
decreasing_by
  · have := half_lt (n := l.length) (by omega); rw [List.length_take]; omega
  · have := half_lt (n := l.length) (by omega); rw [List.length_drop]; omega
theorem recP_one {l : List (List Nat)} (h : l.length ≤ 1) (a : Nat) : recP l a = [] := by rw [recP, dif_pos h]
theorem recP_two {l : List (List Nat)} (h : ¬ l.length ≤ 1) (a : Nat) : recP l a = if a < half l.length then recP (l.take (half l.length)) a ++ [rec_ (l.drop (half l.length))] else recP (l.drop (half l.length)) (a - half l.length) ++ [rec_ (l.take (half l.length))] := by rw [recP, dif_neg h]
theorem half2 : half 2 = 1 := by
  have := half_lt (n := 2) (by omega)
  omega
theorem recP_up : ∀ (m : Nat) (l : List (List Nat)) (a : Nat), l.length = m → ¬ l.length ≤ 1 → a < l.length → recP l a = sib l a ++ recP (upL l) (a / 2) := by
  intro m
  induction m using Nat.strongRecOn with
  | _ m ih =>
    intro l a hm h1 ha
    by_cases h2 : l.length = 2
    · match l, h2 with
      | [x, y], _ =>
        rw [recP_two (l := [x, y]) (by simp), recP_one (l := upL [x, y]) (by simp [upL])]
        show (if a < half 2 then recP ([x, y].take (half 2)) a ++ [rec_ ([x, y].drop (half 2))] else recP ([x, y].drop (half 2)) (a - half 2) ++ [rec_ ([x, y].take (half 2))]) = _
        rw [half2]
        have ha' : a < 2 := ha
        rcases (by omega : a = 0 ∨ a = 1) with rfl | rfl
        · rw [if_pos (by decide), recP_one (by simp), rec_one (by simp)]
          simp [sib, sidx]
        · rw [if_neg (by decide), recP_one (by simp), rec_one (by simp)]
          simp [sib, sidx]
    · obtain ⟨e1, e2⟩ := up_split (l := l) (by omega)
      obtain ⟨h4, h5, h6⟩ := half_half (n := l.length) (by omega)
      have hlt := half_lt (n := l.length) (by omega)
      have hlu := upL_length l
      have hu : ¬ (upL l).length ≤ 1 := by rw [hlu]; omega
      have hhu : half (upL l).length = half l.length / 2 := by rw [hlu]; exact h5
      have htl : (l.take (half l.length)).length = half l.length := by rw [List.length_take]; omega
      have hdl : (l.drop (half l.length)).length = l.length - half l.length := List.length_drop
      have et : (upL l).take (half (upL l).length) = upL (l.take (half l.length)) := by
        rw [← e2]; conv => lhs; rw [e1]
        rw [List.take_left]
      have ed : (upL l).drop (half (upL l).length) = upL (l.drop (half l.length)) := by
        rw [← e2]; conv => lhs; rw [e1]
        rw [List.drop_left]
      rw [recP_two h1, recP_two hu, et, ed, rec_up, rec_up]
      by_cases hc : a < half l.length
      · have q1 : a / 2 < half (upL l).length := by rw [hhu]; omega
        have q2 : (l.take (half l.length)).length < m := by rw [htl]; omega
        have q3 : ¬ (l.take (half l.length)).length ≤ 1 := by rw [htl]; omega
        rw [if_pos hc, if_pos q1, ih _ q2 (l.take (half l.length)) a rfl q3 (by rw [htl]; exact hc), List.append_assoc]
        congr 1
        have hs : sidx a < half l.length := by
          by_cases hz : a % 2 = 0
          · rw [sidx_even hz]; omega
          · rw [sidx_odd hz]; omega
        unfold sib
        rw [if_pos (by rw [htl]; exact hs), if_pos (by omega), List.getD_eq_getElem?_getD, List.getD_eq_getElem?_getD, List.getElem?_take, if_pos hs]
      · have q1 : ¬ a / 2 < half (upL l).length := by rw [hhu]; omega
        rw [if_neg hc, if_neg q1]
        have hax : (a / 2 - half (upL l).length) = (a - half l.length) / 2 := by rw [hhu]; omega
        rw [hax, ← List.append_assoc]
        have hs : sib (l.drop (half l.length)) (a - half l.length) = sib l a := by
          unfold sib
          rw [hdl]
          by_cases hz : a % 2 = 0
          · rw [sidx_even hz, sidx_even (show (a - half l.length) % 2 = 0 by omega)]
            by_cases hb : a + 1 < l.length
            · rw [if_pos hb, if_pos (by omega), List.getD_eq_getElem?_getD, List.getD_eq_getElem?_getD, List.getElem?_drop, show half l.length + (a - half l.length + 1) = a + 1 by omega]
            · rw [if_neg hb, if_neg (by omega)]
          · rw [sidx_odd hz, sidx_odd (show ¬ (a - half l.length) % 2 = 0 by omega), if_pos (by omega), if_pos (by omega), List.getD_eq_getElem?_getD, List.getD_eq_getElem?_getD, List.getElem?_drop, show half l.length + (a - half l.length - 1) = a - 1 by omega]
        by_cases hd : (l.drop (half l.length)).length ≤ 1
        · have ha2 : a = half l.length ∧ l.length = half l.length + 1 := by omega
          have h0 : sib l a = [] := by
            unfold sib
            rw [sidx_even (by omega), if_neg (by omega)]
          rw [h0, upL_one hd, show (a - half l.length) / 2 = a - half l.length by omega, List.nil_append]
        · have q2 : (l.drop (half l.length)).length < m := by rw [hdl]; omega
          rw [ih _ q2 (l.drop (half l.length)) (a - half l.length) rfl hd (by omega), hs]
theorem pathI_rec : ∀ (m : Nat) (l : List (List Nat)) (a : Nat), l.length = m → a < l.length → pathI l a = recP l a := by
  intro m
  induction m using Nat.strongRecOn with
  | _ m ih =>
    intro l a hm ha
    by_cases h1 : l.length ≤ 1
    · rw [pathI_one h1, recP_one h1]
    · have hl := upL_length l
      rw [pathI_up h1, recP_up m l a hm h1 ha, ih _ (by omega) (upL l) (a / 2) rfl (by omega)]
end Go.Proofs.Ytdhfiamgmokfbaa
