/- Roots, paths and what is checked, walked. It proves no statement by itself. -/
import Derived.Test.YtdhfiamgmokfbaaMer1
set_option linter.unusedSimpArgs false
set_option linter.unusedVariables false
set_option maxRecDepth 100000
set_option maxHeartbeats 1000000
namespace Go.Proofs.Ytdhfiamgmokfbaa
open Go Go.RowKit E
attribute [local irreducible] wpList seqH treeH
theorem Parts.zero {w : World} : Parts w none [] := ⟨[], Rd.nil _ _ _, fun j v h => by simp at h⟩
theorem xor1_sidx (b : Nat) : xor1 (b : Int) = ((sidx b : Nat) : Int) := by
  unfold xor1 sidx
  split <;> omega
theorem rootI_head {l : List (List Nat)} (h : l.length = 1) : rootI l = l.getD 0 [] := by
  match l, h with
  | [x], _ => rw [rootI_one]; rfl
def mpath (l : List (List Nat)) (a : Int) : List (List Nat) := if 0 ≤ a ∧ a < (l.length : Int) then pathI (l.map mleaf) a.toNat else []
theorem sib_all {l : List (List Nat)} (h : All32 l) (a : Nat) : All32 (sib l a) := by
  unfold sib
  split
  · intro x hx; rw [List.mem_singleton.1 hx]; exact h.getD (by assumption)
  · intro x hx; simp at hx
theorem pathI_all : ∀ (m : Nat) (l : List (List Nat)) (a : Nat), l.length = m → All32 l → All32 (pathI l a) := by
  intro m
  induction m using Nat.strongRecOn with
  | _ m ih =>
    intro l a hm hl
    by_cases h1 : l.length ≤ 1
    · rw [pathI_one h1]; intro x hx; simp at hx
    · rw [pathI_up h1]
      exact (sib_all hl a).append (ih _ (by rw [upL_length]; omega) (upL l) (a / 2) rfl (upL_all hl))
theorem mpath_all (l : List (List Nat)) (a : Int) : All32 (mpath l a) := by
  unfold mpath
  split
  · exact pathI_all _ _ _ rfl (map_leaf_all l)
  · intro x hx; simp at hx
theorem mk_root (w0 : World) (A : Option Addr) (c : Nat) (L : List (List Nat)) (R : Rd w0 32 A L.length (sv L)) (hL : All32 L) (hn : L.length ≤ 1000000) :
    Ret Try.prog 42 [.slice A L.length c] w0 fun v w' => v = .agg (bv (mroot L)).toArray ∧ Below w0.heap.size w0 w' := by
  refine enter Try.func42 rfl Try.ntmps42 (Nat.le_of_ble_eq_true rfl) ?_
  have S := St.init w0
  refine s_seq (s_plain ?_)
  refine p_does (d_allocA S zvS) rfl ?_
  rintro _ w ⟨b2, rfl, S⟩
  refine p_nil (x_then (s_seq (s_seq (s_plain ?_))))
  refine p_val (e_move (v := .slice _ _ _) rfl) rfl ?_
  refine p_val (e_len rfl Try.underlying24) rfl ?_
  refine p_val (e_eql rfl rfl) rfl ?_
  refine p_nil (x_then ?_)
  refine s_cond rfl (fun hc6 => ?_) (fun hc6 => ?_)
  · refine s_seq (s_plain ?_)
    refine p_does (d_call Try.func19 nm19 rfl rfl (join_calls _ 3 none 0 [] Parts.zero (by simp [joinB]) (by simp))) rfl ?_
    rintro _ w ⟨rfl, hB⟩
    have S := S.below hB
    refine p_does (d_storeW S 0 rfl rfl (by first | exact bv_one _ | exact sv_one _ | exact iv_one _ | with_reducible assumption | (refine One.mem ?_; repeat (first | exact One.bv _ | exact One.sv _ | exact One.iv _ | exact One.nil | exact One.cat0 | refine One.cat1 ?_ ?_ | refine One.cons rfl ?_ | refine One.append ?_ ?_))) sz29 (by first | with_reducible assumption | (rw [bv_length]; with_reducible assumption) | (simp [cat, length_join, length_zsum]; done) | (simp [cat, length_join, length_zsum]; omega) | rfl) rfl rfl (by first | with_reducible assumption | (rw [bv_length]; with_reducible assumption) | (simp [cat, length_join, length_zsum]; done) | (simp [cat, length_join, length_zsum]; omega) | rfl)) rfl ?_
    intro _ w S
    refine p_nil (x_then (s_ret (x_then_ret ?_)))
    exact postC Try.results42 S 0 rfl rfl rfl ag29 sz29 (by first | with_reducible assumption | (rw [bv_length]; with_reducible assumption) | (simp [cat, length_join, length_zsum]; done) | (simp [cat, length_join, length_zsum]; omega) | rfl) (⟨by unfold mroot; rw [if_pos (by omega)], S.to_below⟩)
  · refine s_skip (x_then (s_seq (s_plain ?_)))
    refine p_val (e_move (v := .slice _ _ _) rfl) rfl ?_
    refine p_does (d_call Try.func86 nm86 rfl rfl (mk_leaves _ _ _ _ (S.rdOld R rfl) (by with_reducible assumption) (by omega))) rfl ?_
    rintro _ w ⟨k9, c9, rfl, T⟩
    have S := S.merge T rfl
    refine p_val (e_assign (v := .slice _ _ _) rfl) rfl ?_
    refine p_nil (x_then (s_seq (s_block ?_)))
    refine s_loopK (α := List (List Nat)) (ks := [k9, some b2]) (ps := [Rw _ _ _ _ _, Ex _ _]) [(2, .pointer _)] ⟨rfl, trivial⟩ S (fun keep ks ps M f' w' => ∃ u Kk9 Ck9, f' = upds u ((3, .slice (at_ Kk9) (M.length) Ck9) :: keep) ∧ (All32 M) ∧ (rootI M = rootI (L.map mleaf)) ∧ (1 ≤ M.length) ∧ (M.length ≤ 1000000) ∧ St w0 w' [] [Kk9, some b2] [Rw 29 32 (M.length) Ck9 (sv M), (ps.getD 1 fun _ => True)]) (fun M => M.length) (L.map mleaf) (⟨_, _, _, upds_eq ⟨rfl, rfl, trivial⟩, map_leaf_all L, by first | omega | rfl | with_reducible assumption | (simp; done) | (simp; omega), by rw [List.length_map]; omega, by rw [List.length_map]; omega, S⟩) ?_
    rintro M f w ⟨u, Kk9, Ck9, rfl, hM, hr, h1, hm, S⟩
    refine s_seq (s_seq (s_plain ?_))
    refine p_val (e_move (v := .slice _ _ _) rfl) rfl ?_
    refine p_val (e_len rfl Try.underlying24) rfl ?_
    refine p_val (e_gtr rfl rfl) rfl ?_
    refine p_nil (x_then ?_)
    refine s_cond rfl (fun hc12 => ?_) (fun hc12 => ?_)
    · refine s_skip (x_then (s_block (s_plain ?_)))
      refine p_val (e_move (v := .slice _ _ _) rfl) rfl ?_
      refine p_does (d_call Try.func87 nm87 rfl rfl (mk_up _ _ _ _ (S.rdRw 0 rfl rfl) (by with_reducible assumption) (by omega))) rfl ?_
      rintro _ w ⟨k14, c14, rfl, T⟩
      have S := S.merge T rfl
      refine p_val (e_assign (v := .slice _ _ _) rfl) rfl ?_
      refine p_nil (x_in ?_)
      refine x_round (upL M) _ rfl ⟨_, _, _, upds_eq ⟨rfl, rfl, trivial⟩, upL_all hM, by rw [← rootI_up (by omega)]; exact hr, by rw [upL_length]; omega, by rw [upL_length]; omega, S.pk [0, 2] rfl⟩ (by rw [upL_length]; omega)
    · refine s_exit (x_then_exit (x_then_exit (x_in_same (x_then (s_seq (s_plain ?_))))))
      have h0 : (M.getD (0 : Int).toNat []).length = 32 := hM.getD (by simp; omega)
      refine p_val (e_move (v := .slice _ _ _) rfl) rfl ?_
      refine p_val (e_ixR (S.rdRw 0 rfl rfl) (by decide) rfl rfl Try.underlying24 sz29 (by omega)) rfl ?_
      refine p_val (e_loadRA rfl ag29 sz29 (by decide) (Rd.sumA (S.rdRw 0 rfl rfl) (by with_reducible assumption) (by omega))) rfl ?_
      refine p_does (d_storeW S 1 rfl rfl (by first | exact bv_one _ | exact sv_one _ | exact iv_one _ | with_reducible assumption | (refine One.mem ?_; repeat (first | exact One.bv _ | exact One.sv _ | exact One.iv _ | exact One.nil | exact One.cat0 | refine One.cat1 ?_ ?_ | refine One.cons rfl ?_ | refine One.append ?_ ?_))) sz29 (by rw [bv_length]; exact h0) rfl rfl (by first | with_reducible assumption | (rw [bv_length]; with_reducible assumption) | (simp [cat, length_join, length_zsum]; done) | (simp [cat, length_join, length_zsum]; omega) | rfl)) rfl ?_
      intro _ w S
      refine p_nil (x_then (s_ret ?_))
      exact postC Try.results42 S 1 rfl rfl rfl ag29 sz29 (by rw [List.size_toArray, bv_length]; exact h0) (⟨by unfold mroot; rw [if_neg (by omega), ← hr, rootI_head (by omega)]; rfl, S.to_below⟩)
theorem mk_path (w0 : World) (a : Int) (A : Option Addr) (c : Nat) (L : List (List Nat)) (R : Rd w0 32 A L.length (sv L)) (hL : All32 L) (hn : L.length ≤ 1000000) :
    Ret Try.prog 41 [.int .i64 a, .slice A L.length c] w0 fun v w' => ∃ k c2, v = .tuple #[.slice (at_ k) (mpath L a).length c2, .bool (decide (0 ≤ a ∧ a < (L.length : Int)))] ∧ St w0 w' [] [k] [Rw 29 32 (mpath L a).length c2 (sv (mpath L a))] := by
  refine enter Try.func41 rfl Try.ntmps41 (Nat.le_of_ble_eq_true rfl) ?_
  have S := St.init w0
  refine s_seq (s_plain ?_)
  refine p_val (e_assign (v := .slice _ _ _) rfl) rfl ?_
  refine p_val (e_assign (v := .bool _) rfl) rfl ?_
  refine p_nil (x_then (s_seq (s_seq ?_)))
  refine s_cutK (ks := []) (ps := []) [(0, .int _ _), (1, .slice _ _ _)] ⟨rfl, rfl, trivial⟩ S (fun keep ks ps f' w' => ∃ u bb, f' = upds u ((16, .bool bb) :: keep) ∧ (bb = true ↔ ((a < (0 : Int)) ∨ (((L.length : Nat) : Int) ≤ a))) ∧ St w0 w' [] ks ps) ?_ ?_
  · refine s_plain ?_
    refine p_val (e_move (v := .int _ _) rfl) rfl ?_
    refine p_valB (e_lss rfl rfl) rfl (fun hg10 => ?_) (fun hg10 => ?_)
    · refine p_val (e_move (v := .bool _) rfl) rfl ?_
      refine p_no rfl rfl rfl rfl rfl ?_
      refine p_no rfl rfl rfl rfl rfl ?_
      refine p_no rfl rfl rfl rfl rfl ?_
      refine p_no rfl rfl rfl rfl rfl ?_
      refine p_val (e_pick_t rfl rfl) rfl ?_
      exact p_nil (x_then ⟨_, rfl, _, _, upds_eq ⟨rfl, rfl, rfl, trivial⟩, by first | (simp only [decide_eq_true_eq, eq_self, true_iff, iff_true, iff_false, Bool.false_eq_true, false_iff, ge_iff_le, gt_iff_lt, true_and, and_true, false_and, and_false, true_or, or_true, false_or, or_false, not_true_eq_false, not_false_eq_true]; omega) | simp | omega | simp_all, S⟩)
    · refine p_val (e_move (v := .bool _) rfl) rfl ?_
      refine pg_val rfl rfl rfl rfl rfl (e_move (v := .int _ _) rfl) ?_
      refine pg_val rfl rfl rfl rfl rfl (e_move (v := .slice _ _ _) rfl) ?_
      refine pg_val rfl rfl rfl rfl rfl (e_len rfl Try.underlying24) ?_
      refine pg_val rfl rfl rfl rfl rfl (e_geq rfl rfl) ?_
      refine p_val (e_pick_f rfl rfl) rfl ?_
      exact p_nil (x_then ⟨_, rfl, _, _, upds_eq ⟨rfl, rfl, rfl, trivial⟩, by first | (simp only [decide_eq_true_eq, eq_self, true_iff, iff_true, iff_false, Bool.false_eq_true, false_iff, ge_iff_le, gt_iff_lt, true_and, and_true, false_and, and_false, true_or, or_true, false_or, or_false, not_true_eq_false, not_false_eq_true]; omega) | simp | omega | simp_all, S⟩)
  · rintro f w ⟨u, b16, rfl, hb16, S⟩
    refine x_then ?_
    refine s_condb rfl (fun hc16 => ?_) (fun hc16 => ?_)
    · have hp16 : ((a < (0 : Int)) ∨ (((L.length : Nat) : Int) ≤ a)) := hb16.1 hc16
      refine s_seq (s_plain ?_)
      refine p_val (e_assign (v := .slice _ _ _) rfl) rfl ?_
      refine p_val (e_assign (v := .bool _) rfl) rfl ?_
      refine p_nil (x_then (s_ret (x_then_ret ?_)))
      exact post2 (v := .slice _ _ _) (x := .bool _) Try.results41 rfl rfl (by have e0 : ¬ (0 ≤ a ∧ a < (L.length : Int)) := by { omega }; unfold mpath; rw [if_neg e0, decide_eq_false e0]; exact ⟨none, 0, rfl, S.none_.addNil 29 32⟩)
    · have hp16 : ¬ ((a < (0 : Int)) ∨ (((L.length : Nat) : Int) ≤ a)) := fun h => by rw [hb16.2 h] at hc16; cases hc16
      refine s_skip (x_then (s_seq (s_plain ?_)))
      refine p_val (e_assign (v := .slice _ _ _) rfl) rfl ?_
      refine p_nil (x_then (s_seq (s_seq (s_plain ?_))))
      refine p_val (e_move (v := .slice _ _ _) rfl) rfl ?_
      refine p_does (d_call Try.func86 nm86 rfl rfl (mk_leaves _ _ _ _ (S.rdOld R rfl) (by with_reducible assumption) (by omega))) rfl ?_
      rintro _ w ⟨k18, c18, rfl, T⟩
      have S := S.merge T rfl
      refine p_val (e_assign (v := .slice _ _ _) rfl) rfl ?_
      refine p_nil (x_then (s_block ?_))
      obtain ⟨b0, rfl⟩ : ∃ b0 : Nat, a = (b0 : Int) := ⟨a.toNat, by omega⟩
      have S := S.addNil 29 32
      refine s_loopK (α := List (List Nat)) (ks := [none, k18]) (ps := [Rw _ _ _ _ _, Rw _ _ _ _ _]) [] trivial S (fun keep ks ps M f' w' => ∃ u Kk6 Ck6 Kk18 Ck18 b O, f' = upds u ((0, .int .i64 ((b : Nat) : Int)) :: (6, .slice (at_ Kk6) (List.length O) Ck6) :: (7, .slice (at_ Kk18) (M.length) Ck18) :: keep) ∧ (All32 M) ∧ (All32 O) ∧ (M.length ≤ 1000000) ∧ (b < M.length) ∧ (O.length + M.length ≤ 1000000) ∧ (O ++ pathI M b = pathI (L.map mleaf) b0) ∧ St w0 w' [] [Kk6, Kk18] [Rw 29 32 (List.length O) Ck6 (sv O), Rw 29 32 (M.length) Ck18 (sv M)]) (fun M => M.length) (L.map mleaf) (⟨_, _,  _,  _,  _,  b0,  [], upds_eq ⟨rfl, rfl, rfl, trivial⟩, map_leaf_all L, by simp [All32], by rw [List.length_map]; omega, by rw [List.length_map]; omega, by rw [List.length_map]; simpa using hn, by first | omega | rfl | with_reducible assumption | (simp; done) | (simp; omega), S⟩) ?_
      rintro M f w ⟨u, Kk6, Ck6, Kk18, Ck18, b, O, rfl, hM, hO, hm, hb, hol, hp, S⟩
      refine s_seq (s_seq (s_plain ?_))
      refine p_val (e_move (v := .slice _ _ _) rfl) rfl ?_
      refine p_val (e_len rfl Try.underlying24) rfl ?_
      refine p_val (e_gtr rfl rfl) rfl ?_
      refine p_nil (x_then ?_)
      refine s_cond rfl (fun hc21 => ?_) (fun hc21 => ?_)
      · refine s_skip (x_then (s_seq (s_block (s_seq ?_))))
        refine s_cutK (ks := [Kk6, Kk18]) (ps := [Rw _ _ _ _ _, Rw _ _ _ _ _]) [(0, .int _ _), (7, .slice _ _ _)] ⟨rfl, rfl, trivial⟩ S (fun keep ks ps f' w' => ∃ u Kk6 Ck6 m2 xs2 O2, f' = upds u ((6, .slice (at_ Kk6) (m2) Ck6) :: keep) ∧ (m2 = List.length O2) ∧ (xs2 = sv O2) ∧ (O2 = O ++ sib M b) ∧ (O2.length ≤ O.length + 1) ∧ St w0 w' [] [Kk6, Kk18] [Rw 29 32 (m2) Ck6 (xs2), (ps.getD 1 fun _ => True)]) ?_ ?_
        · refine s_seq (s_plain ?_)
          refine p_val (e_move (v := .int _ _) rfl) rfl ?_
          refine p_val (e_xor1 rfl rfl (by omega)) rfl ?_
          rw [xor1_sidx]
          refine p_val (e_assign (v := .int _ _) rfl) rfl ?_
          refine p_nil (x_then (s_seq (s_plain ?_)))
          refine p_val (e_move (v := .int _ _) rfl) rfl ?_
          refine p_val (e_move (v := .slice _ _ _) rfl) rfl ?_
          refine p_val (e_len rfl Try.underlying24) rfl ?_
          refine p_val (e_lss rfl rfl) rfl ?_
          refine p_nil (x_then ?_)
          refine s_cond rfl (fun hc29 => ?_) (fun hc29 => ?_)
          · refine s_plain ?_
            have h0 : (M.getD ((sidx b : Nat) : Int).toNat []).length = 32 := hM.getD (by omega)
            refine p_val (e_move (v := .slice _ _ _) rfl) rfl ?_
            refine p_val (e_move (v := .slice _ _ _) rfl) rfl ?_
            refine p_val (e_move (v := .int _ _) rfl) rfl ?_
            refine p_val (e_ixR (S.rdRw 1 rfl rfl) (by decide) rfl rfl Try.underlying24 sz29 (by omega)) rfl ?_
            refine p_val (e_loadRA rfl ag29 sz29 (by decide) (Rd.sumA (S.rdRw 1 rfl rfl) (by with_reducible assumption) (by omega))) rfl ?_
            refine p_does (d_litS S Try.underlying24 sz29 zv29 rfl (L := [_]) rfl rfl (All32.single h0) (by decide)) rfl ?_
            rintro _ w ⟨b35, rfl, S⟩
            refine p_does (d_append S 1 rfl rfl Try.underlying24 el29 rfl rfl (S.rdRw 0 rfl rfl) (by first | exact bv_one _ | exact sv_one _ | exact iv_one _ | with_reducible assumption | (refine One.mem ?_; repeat (first | exact One.bv _ | exact One.sv _ | exact One.iv _ | exact One.nil | exact One.cat0 | refine One.cat1 ?_ ?_ | refine One.cons rfl ?_ | refine One.append ?_ ?_))) (by first | omega | (simp only [List.length_append, List.length_cons, List.length_nil, bv_length, length_join]; omega) | (simp [cat, length_join]; omega)) (by unfold maxLen; first | omega | (simp only [List.length_append, List.length_cons, List.length_nil, bv_length, length_join]; omega))) rfl ?_
            rintro _ w ⟨k36, c36, rfl, S⟩
            refine p_val (e_assign (v := .slice _ _ _) rfl) rfl ?_
            refine p_nil ?_
            exact x_then ⟨_, rfl, _, _,  _,  _,  _,  O ++ [M.getD ((sidx b : Nat) : Int).toNat []], upds_eq ⟨rfl, rfl, rfl, trivial⟩, by simp, (sv_append _ _).symm, by unfold sib; rw [if_pos (by omega), Int.toNat_natCast], by simp, S.pk [1, 2] rfl⟩
          · refine s_skip ?_
            exact x_then ⟨_, rfl, _, _,  _,  _,  _,  O, upds_eq ⟨rfl, rfl, rfl, trivial⟩, by first | omega | rfl | with_reducible assumption | (simp; done) | (simp; omega), by first | omega | rfl | with_reducible assumption | (simp; done) | (simp; omega), by unfold sib; rw [if_neg (by omega), List.append_nil], by first | omega | rfl | with_reducible assumption | (simp; done) | (simp; omega), S⟩
        · rintro f w ⟨u, Kk6, Ck6, m2, xs2, O2, rfl, rfl, rfl, hO2, hO3, S⟩
          refine x_then (s_plain ?_)
          refine p_val (e_move (v := .int _ _) rfl) rfl ?_
          refine p_val (e_quo64 rfl rfl (by omega)) rfl ?_
          refine p_val (e_assign (v := .int _ _) rfl) rfl ?_
          refine p_nil (x_in (x_then (s_plain ?_)))
          refine p_val (e_move (v := .slice _ _ _) rfl) rfl ?_
          refine p_does (d_call Try.func87 nm87 rfl rfl (mk_up _ _ _ _ (S.rdRw 1 rfl rfl) (by with_reducible assumption) (by omega))) rfl ?_
          rintro _ w ⟨k23, c23, rfl, T⟩
          have S := S.merge T rfl
          refine p_val (e_assign (v := .slice _ _ _) rfl) rfl ?_
          refine p_nil ?_
          refine x_round (upL M) _ rfl ⟨_, _,  _,  _,  _,  b / 2,  O2, upds_eq ⟨rfl, rfl, rfl, trivial⟩, upL_all hM, by rw [hO2]; exact hO.append (sib_all hM b), by rw [upL_length]; omega, by rw [upL_length]; omega, by rw [upL_length]; omega, by rw [hO2, List.append_assoc, ← pathI_up (by omega)]; exact hp, S.pk [1, 0] rfl⟩ (by rw [upL_length]; omega)
      · refine s_exit (x_then_exit (x_then_exit (x_in_same (x_then (s_seq (s_plain ?_))))))
        refine p_val (e_move (v := .slice _ _ _) rfl) rfl ?_
        refine p_val (e_assign (v := .slice _ _ _) rfl) rfl ?_
        refine p_val (e_assign (v := .bool _) rfl) rfl ?_
        refine p_nil (x_then (s_ret ?_))
        exact post2 (v := .slice _ _ _) (x := .bool _) Try.results41 rfl rfl (by have e0 : 0 ≤ (b0 : Int) ∧ (b0 : Int) < (L.length : Int) := by { omega }; have e1 : mpath L (b0 : Int) = O := by { unfold mpath; rw [if_pos e0, Int.toNat_natCast, ← hp, pathI_one (by omega), List.append_nil] }; rw [e1, decide_eq_true e0]; exact ⟨_, _, rfl, S.pk [0] rfl⟩)
end Go.Proofs.Ytdhfiamgmokfbaa
