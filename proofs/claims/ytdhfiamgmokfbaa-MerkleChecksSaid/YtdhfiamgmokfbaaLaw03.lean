/- The third law's statements, walked. It proves no statement by itself. -/
import Derived.Test.YtdhfiamgmokfbaaMer5
set_option linter.unusedSimpArgs false
set_option linter.unusedVariables false
set_option maxRecDepth 100000
set_option maxHeartbeats 1000000
namespace Go.Proofs.Ytdhfiamgmokfbaa
open Go Go.RowKit E
attribute [local irreducible] wpList seqH treeH
theorem few_gen (w0 : World) (A : Option Addr) (c : Nat) (L M : List (List Nat)) (hn : L.length ≤ c) (hM : M = L.take 40) :
    Ret Try.prog 37 [.slice A L.length c] w0 fun v w' => v = .slice A M.length c ∧ Below w0.heap.size w0 w' := by
  subst hM; exact l3few w0 A c L hn
theorem mpath_rec {l : List (List Nat)} {a : Int} (h : 0 ≤ a ∧ a < (l.length : Int)) : mpath l a = mrecP l a.toNat := by
  unfold mpath mrecP
  rw [if_pos h]
  exact pathI_rec _ _ _ rfl (by rw [List.length_map]; omega)
theorem mpath_len (l : List (List Nat)) (a : Int) : (mpath l a).length ≤ l.length := by
  by_cases h : 0 ≤ a ∧ a < (l.length : Int)
  · rw [mpath_rec h]; exact mrecP_len _ _ _ rfl
  · unfold mpath; rw [if_neg h]; simp
theorem mroots_calls (w0 : World) (A : Option Addr) (c : Nat) (L : List (List Nat)) (a : Int) (s : List Nat) (R : Rd w0 32 A L.length (sv L)) (hL : All32 L) (cR : L.length ≤ c) (hs : s.length = 32) :
    Ret Try.prog 8 [.slice A L.length c, .int .i64 a, .agg (bv s).toArray] w0 fun v w' => v = .bool true ∧ Below w0.heap.size w0 w' := by
  refine enter Try.func8 rfl Try.ntmps8 (Nat.le_of_ble_eq_true rfl) ?_
  have S := St.init w0
  obtain ⟨M, hMe⟩ : ∃ M, M = L.take 40 := ⟨_, rfl⟩
  have hMl : M.length = min 40 L.length := by rw [hMe, List.length_take]
  have hM : All32 M := hMe ▸ hL.take 40
  have RM : Rd w0 32 A M.length (sv M) := by { have h9 := Rd.take_sv (m := M.length) hL R (by omega); rw [hMl] at h9 ⊢; rw [hMe]; rw [show L.take (min 40 L.length) = L.take 40 by rw [← hMl, hMe]; simp] at h9; exact h9 }
  refine s_seq (s_plain ?_)
  refine p_does (d_boxA S rfl) rfl ?_
  rintro _ w ⟨b5, rfl, S⟩
  refine p_val (e_assign (v := .bool _) rfl) rfl ?_
  refine p_nil (x_then (s_seq (s_plain ?_)))
  refine p_val (e_move (v := .slice _ _ _) rfl) rfl ?_
  refine p_does (d_call Try.func37 nm37 rfl rfl (few_gen _ _ _ _ _ cR hMe)) rfl ?_
  rintro _ w ⟨rfl, hB⟩
  have S := S.below hB
  refine p_val (e_assign (v := .slice _ _ _) rfl) rfl ?_
  refine p_nil (x_then (s_seq (s_plain ?_)))
  refine p_val (e_move (v := .int _ _) rfl) rfl ?_
  refine p_val (e_move (v := .slice _ _ _) rfl) rfl ?_
  refine p_does (d_call Try.func41 nm41 rfl rfl (mk_path _ _ _ _ _ (S.rdOld RM rfl) (by with_reducible assumption) (by omega))) rfl ?_
  rintro _ w ⟨k14, c14, rfl, T⟩
  have S := S.merge T rfl
  refine p_val (e_move (v := .tuple _) rfl) rfl ?_
  refine p_val (e_extract rfl rfl) rfl ?_
  refine p_val (e_extract rfl rfl) rfl ?_
  refine p_val (e_assign (v := .slice _ _ _) rfl) rfl ?_
  refine p_val (e_assign (v := .bool _) rfl) rfl ?_
  refine p_nil (x_then (s_seq (s_seq ?_)))
  refine s_cutK (ks := [k14, some b5]) (ps := [Rw _ _ _ _ _, Ex _ _]) [(0, .slice _ _ _), (1, .int _ _), (7, .slice _ _ _), (8, .bool _)] ⟨rfl, rfl, rfl, rfl, trivial⟩ S (fun keep ks ps f' w' => ∃ u bb, f' = upds u ((28, .bool bb) :: keep) ∧ (bb = true ↔ False) ∧ St w0 w' [] ks ps) ?_ ?_
  · refine s_drawK (ks := [k14, some b5]) (ps := [Rw _ _ _ _ _, Ex _ _]) S [(true, 0), (true, 2), (false, 1), (false, 3), (true, 4), (true, 5), (true, 6), (true, 8), (false, 7), (false, 9), (true, 10), (true, 11)] [] [] mixed (by kernel_rfl) (by repeat (first | exact Calm.post _ _ _ | refine Calm.then ?_ _ | refine Calm.inB ?_ _)) (fun hS => ?_)
    have S := S.drew
    refine q_val (fun w hS => e_move (v := .slice _ _ _) rfl) rfl hS ?_
    refine q_val (fun w hS => e_move (v := .slice _ _ _) rfl) rfl hS ?_
    refine q_does (d_call Try.func42 nm42 rfl rfl (mk_root _ _ _ _ (S.rdOld RM rfl) (by with_reducible assumption) (by omega))) rfl ?_
    rintro _ w ⟨rfl, hB⟩
    have S := S.below hB
    have hS := S.pk [0, 1] rfl
    refine ⟨hS, ?_⟩
    refine q_does (d_call Try.func43 nm43 rfl rfl (l3root _ _ _ _ _ (S.rdOld RM rfl) (by with_reducible assumption) rfl (by omega) (by omega))) rfl ?_
    rintro _ w ⟨rfl, hB⟩
    have S := S.below hB
    have hS := S.pk [0, 1] rfl
    refine ⟨hS, ?_⟩
    refine q_valB (fun w hS => EqT.sumN eq29 gd29 rfl rfl (by first | with_reducible assumption | (rw [bv_length]; with_reducible assumption) | (rw [List.size_toArray, bv_length]; with_reducible assumption) | (simp [cat, hs, length_mleaf, length_mroot]; done) | (simp [cat, hs, length_mleaf, length_mroot]; omega) | rfl) (by first | with_reducible assumption | (rw [bv_length]; with_reducible assumption) | (rw [List.size_toArray, bv_length]; with_reducible assumption) | (simp [cat, hs, length_mleaf, length_mroot]; done) | (simp [cat, hs, length_mleaf, length_mroot]; omega) | rfl)) rfl hS (fun hg21 => ?_) (fun hg21 => ?_)
    · exact False.elim (hg21 rfl)
    · refine q_val (fun w hS => e_move (v := .bool _) rfl) rfl hS ?_
      refine qg_val rfl rfl rfl rfl rfl (fun w hS => e_loadW 1 rfl ag29 sz29 hS rfl rfl (by first | with_reducible assumption | (rw [bv_length]; with_reducible assumption) | (rw [List.size_toArray, bv_length]; with_reducible assumption) | (simp [cat, hs, length_mleaf, length_mroot]; done) | (simp [cat, hs, length_mleaf, length_mroot]; omega) | rfl)) hS ?_
      refine qg_val rfl rfl rfl rfl rfl (fun w hS => e_loadW 1 rfl ag29 sz29 hS rfl rfl (by first | with_reducible assumption | (rw [bv_length]; with_reducible assumption) | (rw [List.size_toArray, bv_length]; with_reducible assumption) | (simp [cat, hs, length_mleaf, length_mroot]; done) | (simp [cat, hs, length_mleaf, length_mroot]; omega) | rfl)) hS ?_
      refine qg_does rfl rfl rfl rfl rfl (d_call Try.func44 nm44 rfl rfl (mk_leaf _ _ (by first | with_reducible assumption | (rw [bv_length]; with_reducible assumption) | (rw [List.size_toArray, bv_length]; with_reducible assumption) | (simp [cat, hs, length_mleaf, length_mroot]; done) | (simp [cat, hs, length_mleaf, length_mroot]; omega) | rfl))) ?_
      rintro _ w ⟨rfl, hB⟩
      have S := S.below hB
      have hS := S.pk [0, 1] rfl
      refine ⟨hS, ?_⟩
      refine qg_does rfl rfl rfl rfl rfl (d_call Try.func45 nm45 rfl rfl (l3leaf _ _ (by first | with_reducible assumption | (rw [bv_length]; with_reducible assumption) | (rw [List.size_toArray, bv_length]; with_reducible assumption) | (simp [cat, hs, length_mleaf, length_mroot]; done) | (simp [cat, hs, length_mleaf, length_mroot]; omega) | rfl))) ?_
      rintro _ w ⟨rfl, hB⟩
      have S := S.below hB
      have hS := S.pk [0, 1] rfl
      refine ⟨hS, ?_⟩
      refine qg_val rfl rfl rfl rfl rfl (fun w hS => EqT.sumN eq29 gd29 rfl rfl (by first | with_reducible assumption | (rw [bv_length]; with_reducible assumption) | (rw [List.size_toArray, bv_length]; with_reducible assumption) | (simp [cat, hs, length_mleaf, length_mroot]; done) | (simp [cat, hs, length_mleaf, length_mroot]; omega) | rfl) (by first | with_reducible assumption | (rw [bv_length]; with_reducible assumption) | (rw [List.size_toArray, bv_length]; with_reducible assumption) | (simp [cat, hs, length_mleaf, length_mroot]; done) | (simp [cat, hs, length_mleaf, length_mroot]; omega) | rfl)) hS ?_
      refine q_val (fun w hS => e_pick_f rfl rfl) rfl hS ?_
      refine q_nil ?_
      exact p_nil (x_then ⟨_, rfl, _, _, upds_eq ⟨rfl, rfl, rfl, rfl, rfl, trivial⟩, by first | (simp only [decide_eq_true_eq, eq_self, true_iff, iff_true, iff_false, Bool.false_eq_true, false_iff, ge_iff_le, gt_iff_lt, true_and, and_true, false_and, and_false, true_or, or_true, false_or, or_false, not_true_eq_false, not_false_eq_true]; omega) | simp | omega | simp_all, S⟩)
  · rintro f w ⟨u, b28, rfl, hb28, S⟩
    refine x_then ?_
    refine s_condb rfl (fun hc28 => ?_) (fun hc28 => ?_)
    · have hp28 : False := hb28.1 hc28
      refine s_seq (s_plain ?_)
      refine p_val (e_assign (v := .bool _) rfl) rfl ?_
      refine p_nil (x_then (s_ret (x_then_ret ?_)))
      exact post1 (v := .bool _) Try.results8 rfl (hp28.elim)
    · have hp28 : ¬ False := fun h => by rw [hb28.2 h] at hc28; cases hc28
      refine s_skip (x_then (s_seq (s_seq ?_)))
      refine s_cutK (ks := [k14, some b5]) (ps := [Rw _ _ _ _ _, Ex _ _]) [(0, .slice _ _ _), (1, .int _ _), (7, .slice _ _ _), (8, .bool _)] ⟨rfl, rfl, rfl, rfl, trivial⟩ S (fun keep ks ps f' w' => ∃ u bb, f' = upds u ((36, .bool bb) :: keep) ∧ (bb = true ↔ ((a < (0 : Int)) ∨ (((M.length : Nat) : Int) ≤ a))) ∧ St w0 w' [] ks ps) ?_ ?_
      · refine s_plain ?_
        refine p_val (e_move (v := .int _ _) rfl) rfl ?_
        refine p_valB (e_lss rfl rfl) rfl (fun hg30 => ?_) (fun hg30 => ?_)
        · refine p_val (e_move (v := .bool _) rfl) rfl ?_
          refine p_no rfl rfl rfl rfl rfl ?_
          refine p_no rfl rfl rfl rfl rfl ?_
          refine p_no rfl rfl rfl rfl rfl ?_
          refine p_no rfl rfl rfl rfl rfl ?_
          refine p_val (e_pick_t rfl rfl) rfl ?_
          exact p_nil (x_then ⟨_, rfl, _, _, upds_eq ⟨rfl, rfl, rfl, rfl, rfl, trivial⟩, by first | (simp only [decide_eq_true_eq, eq_self, true_iff, iff_true, iff_false, Bool.false_eq_true, false_iff, ge_iff_le, gt_iff_lt, true_and, and_true, false_and, and_false, true_or, or_true, false_or, or_false, not_true_eq_false, not_false_eq_true]; omega) | simp | omega | simp_all, S⟩)
        · refine p_val (e_move (v := .bool _) rfl) rfl ?_
          refine pg_val rfl rfl rfl rfl rfl (e_move (v := .int _ _) rfl) ?_
          refine pg_val rfl rfl rfl rfl rfl (e_move (v := .slice _ _ _) rfl) ?_
          refine pg_val rfl rfl rfl rfl rfl (e_len rfl Try.underlying24) ?_
          refine pg_val rfl rfl rfl rfl rfl (e_geq rfl rfl) ?_
          refine p_val (e_pick_f rfl rfl) rfl ?_
          exact p_nil (x_then ⟨_, rfl, _, _, upds_eq ⟨rfl, rfl, rfl, rfl, rfl, trivial⟩, by first | (simp only [decide_eq_true_eq, eq_self, true_iff, iff_true, iff_false, Bool.false_eq_true, false_iff, ge_iff_le, gt_iff_lt, true_and, and_true, false_and, and_false, true_or, or_true, false_or, or_false, not_true_eq_false, not_false_eq_true]; omega) | simp | omega | simp_all, S⟩)
      · rintro f w ⟨u, b36, rfl, hb36, S⟩
        refine x_then ?_
        refine s_condb rfl (fun hc36 => ?_) (fun hc36 => ?_)
        · have hp36 : ((a < (0 : Int)) ∨ (((M.length : Nat) : Int) ≤ a)) := hb36.1 hc36
          refine s_seq ?_
          refine s_cutK (ks := [k14, some b5]) (ps := [Rw _ _ _ _ _, Ex _ _]) [] trivial S (fun keep ks ps f' w' => ∃ u bb, f' = upds u ((6, .bool bb) :: keep) ∧ (bb = true ↔ True) ∧ St w0 w' [] ks ps) ?_ ?_
          · refine s_plain ?_
            refine p_val (e_move (v := .slice _ _ _) rfl) rfl ?_
            refine p_val (e_len rfl Try.underlying24) rfl ?_
            refine p_valB (e_eql rfl rfl) rfl (fun hg39 => ?_) (fun hg39 => ?_)
            · refine p_val (e_move (v := .bool _) rfl) rfl ?_
              rcases Classical.em (0 ≤ a ∧ a < (M.length : Int)) with hg41 | hg41
              · rw [decide_eq_true hg41]
                refine pg_val rfl rfl rfl rfl rfl (e_move (v := .bool _) rfl) ?_
                refine pg_val rfl rfl rfl rfl rfl (e_not rfl) ?_
                refine p_val (e_pick_t rfl rfl) rfl ?_
                refine p_val (e_move (v := .bool _) rfl) rfl ?_
                refine p_no rfl rfl rfl rfl rfl ?_
                refine p_val (e_pick_f rfl rfl) rfl ?_
                refine p_val (e_assign (v := .bool _) rfl) rfl ?_
                exact p_nil (x_then ⟨_, rfl, _, _, upds_eq ⟨rfl, trivial⟩, by first | (simp only [decide_eq_true_eq, eq_self, true_iff, iff_true, iff_false, Bool.false_eq_true, false_iff, ge_iff_le, gt_iff_lt, true_and, and_true, false_and, and_false, true_or, or_true, false_or, or_false, not_true_eq_false, not_false_eq_true]; omega) | simp | omega | simp_all, S⟩)
              · rw [decide_eq_false hg41]
                refine pg_val rfl rfl rfl rfl rfl (e_move (v := .bool _) rfl) ?_
                refine pg_val rfl rfl rfl rfl rfl (e_not rfl) ?_
                refine p_val (e_pick_t rfl rfl) rfl ?_
                refine p_val (e_move (v := .bool _) rfl) rfl ?_
                refine pg_does rfl rfl rfl rfl rfl (d_call Try.func39 nm39 rfl rfl (l3awake _)) ?_
                rintro _ w ⟨rfl, hB⟩
                have S := S.below hB
                refine p_val (e_pick_t rfl rfl) rfl ?_
                refine p_val (e_assign (v := .bool _) rfl) rfl ?_
                exact p_nil (x_then ⟨_, rfl, _, _, upds_eq ⟨rfl, trivial⟩, by first | (simp only [decide_eq_true_eq, eq_self, true_iff, iff_true, iff_false, Bool.false_eq_true, false_iff, ge_iff_le, gt_iff_lt, true_and, and_true, false_and, and_false, true_or, or_true, false_or, or_false, not_true_eq_false, not_false_eq_true]; omega) | simp | omega | simp_all, S⟩)
            · exact False.elim (hg39 (by unfold mpath; rw [if_neg (by omega)]; rfl))
          · rintro f w ⟨u, b6, rfl, hb6, S⟩
            refine x_then (s_ret (x_then_ret ?_))
            exact post1 (v := .bool _) Try.results8 rfl (⟨by rw [hb6.2 trivial], S.to_below⟩)
        · have hp36 : ¬ ((a < (0 : Int)) ∨ (((M.length : Nat) : Int) ≤ a)) := fun h => by rw [hb36.2 h] at hc36; cases hc36
          refine s_skip (x_then (s_seq ?_))
          refine s_cutK (ks := [k14, some b5]) (ps := [Rw _ _ _ _ _, Ex _ _]) [] trivial S (fun keep ks ps f' w' => ∃ u bb, f' = upds u ((6, .bool bb) :: keep) ∧ (bb = true ↔ True) ∧ St w0 w' [] ks ps) ?_ ?_
          · refine s_plain ?_
            rcases Classical.em (0 ≤ a ∧ a < (M.length : Int)) with hg47 | hg47
            · rw [decide_eq_true hg47]
              refine p_val (e_move (v := .bool _) rfl) rfl ?_
              refine p_val (e_move (v := .bool _) rfl) rfl ?_
              refine pg_val rfl rfl rfl rfl rfl (e_move (v := .slice _ _ _) rfl) ?_
              refine pg_val rfl rfl rfl rfl rfl (e_move (v := .slice _ _ _) rfl) ?_
              refine pg_val rfl rfl rfl rfl rfl (e_move (v := .int _ _) rfl) ?_
              refine pg_does rfl rfl rfl rfl rfl (d_call Try.func47 nm47 rfl rfl (l3path _ _ a.toNat (by omega) _ _ _ M (S.rdOld RM rfl) hM rfl (by omega) (by omega) (by omega))) ?_
              rintro _ w ⟨k52, c52, rfl, T⟩
              have S := S.merge T rfl
              refine pg_does rfl rfl rfl rfl rfl (d_call Try.func46 nm46 rfl rfl (l3same _ _ _ _ _ (mpath M a) (mrecP M a.toNat) (S.rdRw 1 rfl rfl) (mpath_all M a) (S.rdRw 0 rfl rfl) (mrecP_all _ M _ rfl) (by have := mpath_len M a; omega))) ?_
              rintro _ w ⟨rfl, hB⟩
              have S := S.below hB
              rcases Classical.em (mpath M a = mrecP M a.toNat) with hg53 | hg53
              · rw [decide_eq_true hg53]
                refine p_val (e_pick_t rfl rfl) rfl ?_
                refine p_val (e_move (v := .bool _) rfl) rfl ?_
                refine pg_does rfl rfl rfl rfl rfl (d_call Try.func39 nm39 rfl rfl (l3awake _)) ?_
                rintro _ w ⟨rfl, hB⟩
                have S := S.below hB
                refine p_val (e_pick_t rfl rfl) rfl ?_
                refine p_val (e_assign (v := .bool _) rfl) rfl ?_
                exact p_nil (x_then ⟨_, rfl, _, _, upds_eq ⟨rfl, trivial⟩, by first | (simp only [decide_eq_true_eq, eq_self, true_iff, iff_true, iff_false, Bool.false_eq_true, false_iff, ge_iff_le, gt_iff_lt, true_and, and_true, false_and, and_false, true_or, or_true, false_or, or_false, not_true_eq_false, not_false_eq_true]; omega) | simp | omega | simp_all, S.pk [1, 2] rfl⟩)
              · exact False.elim (hg53 (mpath_rec (by omega)))
            · rw [decide_eq_false hg47]
              refine p_val (e_move (v := .bool _) rfl) rfl ?_
              refine p_val (e_move (v := .bool _) rfl) rfl ?_
              refine p_no rfl rfl rfl rfl rfl ?_
              refine p_no rfl rfl rfl rfl rfl ?_
              refine p_no rfl rfl rfl rfl rfl ?_
              refine p_no rfl rfl rfl rfl rfl ?_
              refine p_no rfl rfl rfl rfl rfl ?_
              refine p_val (e_pick_f rfl rfl) rfl ?_
              refine p_val (e_move (v := .bool _) rfl) rfl ?_
              refine p_no rfl rfl rfl rfl rfl ?_
              refine p_val (e_pick_f rfl rfl) rfl ?_
              refine p_val (e_assign (v := .bool _) rfl) rfl ?_
              exact p_nil (x_then ⟨_, rfl, _, _, upds_eq ⟨rfl, trivial⟩, by first | (simp only [decide_eq_true_eq, eq_self, true_iff, iff_true, iff_false, Bool.false_eq_true, false_iff, ge_iff_le, gt_iff_lt, true_and, and_true, false_and, and_false, true_or, or_true, false_or, or_false, not_true_eq_false, not_false_eq_true]; omega) | simp | omega | simp_all, S⟩)
          · rintro f w ⟨u, b6, rfl, hb6, S⟩
            refine x_then (s_ret ?_)
            exact post1 (v := .bool _) Try.results8 rfl (⟨by rw [hb6.2 trivial], S.to_below⟩)
theorem mroots_n (w0 : World) (A : Option Addr) (n c : Nat) (L : List (List Nat)) (a : Int) (s : List Nat) (hn : L.length = n) (R : Rd w0 32 A n (sv L)) (hL : All32 L) (cR : n ≤ c) (hs : s.length = 32) :
     Ret Try.prog 8 [.slice A n c, .int .i64 a, .agg (bv s).toArray] w0 fun v w' => v = .bool true ∧ Below w0.heap.size w0 w' := by
  subst hn; exact mroots_calls w0 A c L a s R hL cR hs
theorem mclimbs_calls (w0 : World) (r s : List Nat) (a m : Int) (A : Option Addr) (c : Nat) (L : List (List Nat)) (hr : r.length = 32) (hs : s.length = 32) (R : Rd w0 32 A L.length (sv L)) (hL : All32 L) (cR : L.length ≤ c) :
    Ret Try.prog 7 [.agg (bv r).toArray, .agg (bv s).toArray, .int .i64 a, .int .i64 m, .slice A L.length c] w0 fun v w' => v = .bool true ∧ Below w0.heap.size w0 w' := by
  refine enter Try.func7 rfl Try.ntmps7 (Nat.le_of_ble_eq_true rfl) ?_
  have S := St.init w0
  obtain ⟨M, hMe⟩ : ∃ M, M = L.take 40 := ⟨_, rfl⟩
  have hMl : M.length = min 40 L.length := by rw [hMe, List.length_take]
  have hM : All32 M := hMe ▸ hL.take 40
  have RM : Rd w0 32 A M.length (sv M) := by { have h9 := Rd.take_sv (m := M.length) hL R (by omega); rw [hMl] at h9 ⊢; rw [hMe]; rw [show L.take (min 40 L.length) = L.take 40 by rw [← hMl, hMe]; simp] at h9; exact h9 }
  refine s_seq (s_plain ?_)
  refine p_does (d_boxA S rfl) rfl ?_
  rintro _ w ⟨b5, rfl, S⟩
  refine p_does (d_boxA S rfl) rfl ?_
  rintro _ w ⟨b6, rfl, S⟩
  refine p_val (e_assign (v := .bool _) rfl) rfl ?_
  refine p_nil (x_then (s_seq (s_plain ?_)))
  refine p_val (e_move (v := .slice _ _ _) rfl) rfl ?_
  refine p_does (d_call Try.func37 nm37 rfl rfl (few_gen _ _ _ _ _ cR hMe)) rfl ?_
  rintro _ w ⟨rfl, hB⟩
  have S := S.below hB
  refine p_val (e_assign (v := .slice _ _ _) rfl) rfl ?_
  refine p_nil (x_then (s_seq (s_plain ?_)))
  refine p_val (e_loadW 1 rfl ag29 sz29 S rfl rfl (by first | with_reducible assumption | (rw [bv_length]; with_reducible assumption) | (rw [List.size_toArray, bv_length]; with_reducible assumption) | (simp [cat, hr, hs, length_mleaf, length_mroot]; done) | (simp [cat, hr, hs, length_mleaf, length_mroot]; omega) | rfl)) rfl ?_
  refine p_val (e_loadW 0 rfl ag29 sz29 S rfl rfl (by first | with_reducible assumption | (rw [bv_length]; with_reducible assumption) | (rw [List.size_toArray, bv_length]; with_reducible assumption) | (simp [cat, hr, hs, length_mleaf, length_mroot]; done) | (simp [cat, hr, hs, length_mleaf, length_mroot]; omega) | rfl)) rfl ?_
  refine p_val (e_move (v := .int _ _) rfl) rfl ?_
  refine p_val (e_move (v := .int _ _) rfl) rfl ?_
  refine p_val (e_move (v := .slice _ _ _) rfl) rfl ?_
  refine p_does (d_call Try.func38 nm38 rfl rfl (mk_check _ _ _ _ _ _ _ M hr hs (S.rdOld RM rfl) hM (by omega))) rfl ?_
  rintro _ w ⟨rfl, hB⟩
  have S := S.below hB
  refine p_val (e_assign (v := .bool _) rfl) rfl ?_
  refine p_nil (x_then (s_seq (s_seq ?_)))
  refine s_cutK (ks := [some b6, some b5]) (ps := [Ex _ _, Ex _ _]) [(2, .int _ _), (3, .int _ _), (4, .slice _ _ _), (5, .pointer _), (6, .pointer _), (11, .bool _)] ⟨rfl, rfl, rfl, rfl, rfl, rfl, trivial⟩ S (fun keep ks ps f' w' => ∃ u bb, f' = upds u ((32, .bool bb) :: keep) ∧ (bb = true ↔ (((a < (0 : Int)) ∨ (m ≤ a)) ∨ ((4096 : Int) < m))) ∧ St w0 w' [] ks ps) ?_ ?_
  · refine s_plain ?_
    refine p_val (e_move (v := .int _ _) rfl) rfl ?_
    refine p_valB (e_lss rfl rfl) rfl (fun hg23 => ?_) (fun hg23 => ?_)
    · refine p_val (e_move (v := .bool _) rfl) rfl ?_
      refine p_no rfl rfl rfl rfl rfl ?_
      refine p_no rfl rfl rfl rfl rfl ?_
      refine p_no rfl rfl rfl rfl rfl ?_
      refine p_val (e_pick_t rfl rfl) rfl ?_
      refine p_val (e_move (v := .bool _) rfl) rfl ?_
      refine p_no rfl rfl rfl rfl rfl ?_
      refine p_no rfl rfl rfl rfl rfl ?_
      refine p_val (e_pick_t rfl rfl) rfl ?_
      exact p_nil (x_then ⟨_, rfl, _, _, upds_eq ⟨rfl, rfl, rfl, rfl, rfl, rfl, rfl, trivial⟩, by first | (simp only [decide_eq_true_eq, eq_self, true_iff, iff_true, iff_false, Bool.false_eq_true, false_iff, ge_iff_le, gt_iff_lt, true_and, and_true, false_and, and_false, true_or, or_true, false_or, or_false, not_true_eq_false, not_false_eq_true]; omega) | simp | omega | simp_all, S⟩)
    · refine p_val (e_move (v := .bool _) rfl) rfl ?_
      refine pg_val rfl rfl rfl rfl rfl (e_move (v := .int _ _) rfl) ?_
      refine pg_val rfl rfl rfl rfl rfl (e_move (v := .int _ _) rfl) ?_
      refine pg_valB rfl rfl rfl rfl rfl (e_geq rfl rfl) (fun hg27 => ?_) (fun hg27 => ?_)
      · refine p_val (e_pick_f rfl rfl) rfl ?_
        refine p_val (e_move (v := .bool _) rfl) rfl ?_
        refine p_no rfl rfl rfl rfl rfl ?_
        refine p_no rfl rfl rfl rfl rfl ?_
        refine p_val (e_pick_t rfl rfl) rfl ?_
        exact p_nil (x_then ⟨_, rfl, _, _, upds_eq ⟨rfl, rfl, rfl, rfl, rfl, rfl, rfl, trivial⟩, by first | (simp only [decide_eq_true_eq, eq_self, true_iff, iff_true, iff_false, Bool.false_eq_true, false_iff, ge_iff_le, gt_iff_lt, true_and, and_true, false_and, and_false, true_or, or_true, false_or, or_false, not_true_eq_false, not_false_eq_true]; omega) | simp | omega | simp_all, S⟩)
      · refine p_val (e_pick_f rfl rfl) rfl ?_
        refine p_val (e_move (v := .bool _) rfl) rfl ?_
        refine pg_val rfl rfl rfl rfl rfl (e_move (v := .int _ _) rfl) ?_
        refine pg_val rfl rfl rfl rfl rfl (e_gtr rfl rfl) ?_
        refine p_val (e_pick_f rfl rfl) rfl ?_
        exact p_nil (x_then ⟨_, rfl, _, _, upds_eq ⟨rfl, rfl, rfl, rfl, rfl, rfl, rfl, trivial⟩, by first | (simp only [decide_eq_true_eq, eq_self, true_iff, iff_true, iff_false, Bool.false_eq_true, false_iff, ge_iff_le, gt_iff_lt, true_and, and_true, false_and, and_false, true_or, or_true, false_or, or_false, not_true_eq_false, not_false_eq_true]; omega) | simp | omega | simp_all, S⟩)
  · rintro f w ⟨u, b32, rfl, hb32, S⟩
    refine x_then ?_
    refine s_condb rfl (fun hc32 => ?_) (fun hc32 => ?_)
    · have hp32 : (((a < (0 : Int)) ∨ (m ≤ a)) ∨ ((4096 : Int) < m)) := hb32.1 hc32
      refine s_seq ?_
      refine s_cutK (ks := [some b6, some b5]) (ps := [Ex _ _, Ex _ _]) [] trivial S (fun keep ks ps f' w' => ∃ u bb, f' = upds u ((10, .bool bb) :: keep) ∧ (bb = true ↔ True) ∧ St w0 w' [] ks ps) ?_ ?_
      · refine s_plain ?_
        rcases Classical.em (mcheck r s a m M) with hg33 | hg33
        · exact False.elim (by have h1 := hg33.1; have h2 := hg33.2.1; have h3 := hg33.2.2.1; omega)
        · rw [decide_eq_false hg33]
          refine p_val (e_move (v := .bool _) rfl) rfl ?_
          refine p_val (e_not rfl) rfl ?_
          refine p_val (e_move (v := .bool _) rfl) rfl ?_
          refine pg_does rfl rfl rfl rfl rfl (d_call Try.func39 nm39 rfl rfl (l3awake _)) ?_
          rintro _ w ⟨rfl, hB⟩
          have S := S.below hB
          refine p_val (e_pick_t rfl rfl) rfl ?_
          refine p_val (e_assign (v := .bool _) rfl) rfl ?_
          exact p_nil (x_then ⟨_, rfl, _, _, upds_eq ⟨rfl, trivial⟩, by first | (simp only [decide_eq_true_eq, eq_self, true_iff, iff_true, iff_false, Bool.false_eq_true, false_iff, ge_iff_le, gt_iff_lt, true_and, and_true, false_and, and_false, true_or, or_true, false_or, or_false, not_true_eq_false, not_false_eq_true]; omega) | simp | omega | simp_all, S⟩)
      · rintro f w ⟨u, b10, rfl, hb10, S⟩
        refine x_then (s_ret (x_then_ret ?_))
        exact post1 (v := .bool _) Try.results7 rfl (⟨by rw [hb10.2 trivial], S.to_below⟩)
    · have hp32 : ¬ (((a < (0 : Int)) ∨ (m ≤ a)) ∨ ((4096 : Int) < m)) := fun h => by rw [hb32.2 h] at hc32; cases hc32
      refine s_skip (x_then (s_seq (s_plain ?_)))
      refine p_val (e_loadW 0 rfl ag29 sz29 S rfl rfl (by first | with_reducible assumption | (rw [bv_length]; with_reducible assumption) | (rw [List.size_toArray, bv_length]; with_reducible assumption) | (simp [cat, hr, hs, length_mleaf, length_mroot]; done) | (simp [cat, hr, hs, length_mleaf, length_mroot]; omega) | rfl)) rfl ?_
      refine p_val (e_move (v := .int _ _) rfl) rfl ?_
      refine p_val (e_move (v := .int _ _) rfl) rfl ?_
      refine p_val (e_move (v := .slice _ _ _) rfl) rfl ?_
      refine p_does (d_call Try.func40 nm40 rfl rfl (l3climb _ _ _ _ _ _ M hs (S.rdOld RM rfl) hM (by omega) (by omega) (by omega) (by omega))) rfl ?_
      rintro _ w ⟨x43, b43, rfl, hx43, hk43, T⟩
      have S := S.below T
      refine p_val (e_move (v := .tuple _) rfl) rfl ?_
      refine p_val (e_extract rfl rfl) rfl ?_
      refine p_val (e_extract rfl rfl) rfl ?_
      refine p_does (d_allocA S zvS) rfl ?_
      rintro _ w ⟨b12, rfl, S⟩
      refine p_does (d_storeW S 0 rfl rfl (by first | exact bv_one _ | exact sv_one _ | exact iv_one _ | with_reducible assumption | (refine One.mem ?_; repeat (first | exact One.bv _ | exact One.sv _ | exact One.iv _ | exact One.nil | exact One.cat0 | refine One.cat1 ?_ ?_ | refine One.cons rfl ?_ | refine One.append ?_ ?_))) sz29 (by first | with_reducible assumption | (rw [bv_length]; with_reducible assumption) | (rw [List.size_toArray, bv_length]; with_reducible assumption) | (simp [cat, hr, hs, length_mleaf, length_mroot]; done) | (simp [cat, hr, hs, length_mleaf, length_mroot]; omega) | rfl) rfl rfl (by first | with_reducible assumption | (rw [bv_length]; with_reducible assumption) | (rw [List.size_toArray, bv_length]; with_reducible assumption) | (simp [cat, hr, hs, length_mleaf, length_mroot]; done) | (simp [cat, hr, hs, length_mleaf, length_mroot]; omega) | rfl)) rfl ?_
      intro _ w S
      refine p_val (e_assign (v := .bool _) rfl) rfl ?_
      refine p_nil (x_then (s_seq ?_))
      refine s_cutK (ks := [some b12, some b6, some b5]) (ps := [Ex _ _, Ex _ _, Ex _ _]) [] trivial S (fun keep ks ps f' w' => ∃ u bb, f' = upds u ((10, .bool bb) :: keep) ∧ (bb = true ↔ True) ∧ St w0 w' [] ks ps) ?_ ?_
      · refine s_plain ?_
        refine p_val (e_move (v := .bool _) rfl) rfl ?_
        refine p_val (e_move (v := .bool _) rfl) rfl ?_
        -- TODO split at a move
        rcases Bool.eq_false_or_eq_true b43 with rfl | rfl
        · skip
          refine p_val (e_move (v := .bool _) rfl) rfl ?_
          refine pg_val rfl rfl rfl rfl rfl (e_loadW 0 rfl ag29 sz29 S rfl rfl (by first | with_reducible assumption | (rw [bv_length]; with_reducible assumption) | (rw [List.size_toArray, bv_length]; with_reducible assumption) | (simp [cat, hr, hs, length_mleaf, length_mroot]; done) | (simp [cat, hr, hs, length_mleaf, length_mroot]; omega) | rfl)) ?_
          refine pg_val rfl rfl rfl rfl rfl (e_loadW 2 rfl ag29 sz29 S rfl rfl (by first | with_reducible assumption | (rw [bv_length]; with_reducible assumption) | (rw [List.size_toArray, bv_length]; with_reducible assumption) | (simp [cat, hr, hs, length_mleaf, length_mroot]; done) | (simp [cat, hr, hs, length_mleaf, length_mroot]; omega) | rfl)) ?_
          refine pg_val rfl rfl rfl rfl rfl (EqT.sum eq29 gd29 rfl rfl (by first | with_reducible assumption | (rw [bv_length]; with_reducible assumption) | (rw [List.size_toArray, bv_length]; with_reducible assumption) | (simp [cat, hr, hs, length_mleaf, length_mroot]; done) | (simp [cat, hr, hs, length_mleaf, length_mroot]; omega) | rfl) (by first | with_reducible assumption | (rw [bv_length]; with_reducible assumption) | (rw [List.size_toArray, bv_length]; with_reducible assumption) | (simp [cat, hr, hs, length_mleaf, length_mroot]; done) | (simp [cat, hr, hs, length_mleaf, length_mroot]; omega) | rfl)) ?_
          refine p_val (e_pick_t rfl rfl) rfl ?_
          refine p_valb (e_eqlB rfl rfl Try.underlying4) rfl (fun hg53 => ?_) (fun hg53 => ?_)
          · refine p_val (e_move (v := .bool _) rfl) rfl ?_
            refine pg_val rfl rfl rfl rfl rfl (e_move (v := .bool _) rfl) ?_
            -- TODO split at a move
            refine pg_valb rfl rfl rfl rfl rfl (e_not rfl) (fun hg56 => ?_) (fun hg56 => ?_)
            · refine pg_val rfl rfl rfl rfl rfl (e_move (v := .bool _) rfl) ?_
              refine p_no rfl rfl rfl rfl rfl ?_
              refine p_no rfl rfl rfl rfl rfl ?_
              refine p_no rfl rfl rfl rfl rfl ?_
              refine p_no rfl rfl rfl rfl rfl ?_
              refine p_no rfl rfl rfl rfl rfl ?_
              refine p_no rfl rfl rfl rfl rfl ?_
              refine pg_val rfl rfl rfl rfl rfl (e_pick_t rfl rfl) ?_
              refine p_val (e_pick_t rfl rfl) rfl ?_
              refine p_val (e_move (v := .bool _) rfl) rfl ?_
              refine p_val (e_pick_t rfl rfl) rfl ?_
              refine p_val (e_move (v := .bool _) rfl) rfl ?_
              refine pg_does rfl rfl rfl rfl rfl (d_call Try.func39 nm39 rfl rfl (l3awake _)) ?_
              rintro _ w ⟨rfl, hB⟩
              have S := S.below hB
              refine p_val (e_pick_t rfl rfl) rfl ?_
              refine p_val (e_assign (v := .bool _) rfl) rfl ?_
              exact p_nil (x_then ⟨_, rfl, _, _, upds_eq ⟨rfl, trivial⟩, by first | (simp only [decide_eq_true_eq, eq_self, true_iff, iff_true, iff_false, Bool.false_eq_true, false_iff, ge_iff_le, gt_iff_lt, true_and, and_true, false_and, and_false, true_or, or_true, false_or, or_false, not_true_eq_false, not_false_eq_true]; omega) | simp | omega | simp_all, S⟩)
            · refine pg_val rfl rfl rfl rfl rfl (e_move (v := .bool _) rfl) ?_
              refine pg_val rfl rfl rfl rfl rfl (e_loadW 0 rfl ag29 sz29 S rfl rfl (by first | with_reducible assumption | (rw [bv_length]; with_reducible assumption) | (rw [List.size_toArray, bv_length]; with_reducible assumption) | (simp [cat, hr, hs, length_mleaf, length_mroot]; done) | (simp [cat, hr, hs, length_mleaf, length_mroot]; omega) | rfl)) ?_
              refine pg_val rfl rfl rfl rfl rfl (e_loadW 1 rfl ag29 sz29 S rfl rfl (by first | with_reducible assumption | (rw [bv_length]; with_reducible assumption) | (rw [List.size_toArray, bv_length]; with_reducible assumption) | (simp [cat, hr, hs, length_mleaf, length_mroot]; done) | (simp [cat, hr, hs, length_mleaf, length_mroot]; omega) | rfl)) ?_
              refine pg_val rfl rfl rfl rfl rfl (e_move (v := .int _ _) rfl) ?_
              refine pg_val rfl rfl rfl rfl rfl (e_move (v := .int _ _) rfl) ?_
              refine pg_val rfl rfl rfl rfl rfl (e_move (v := .slice _ _ _) rfl) ?_
              refine pg_does rfl rfl rfl rfl rfl (d_call Try.func38 nm38 rfl rfl (mk_check _ _ _ _ _ _ _ M (by with_reducible assumption) hs (S.rdOld RM rfl) hM (by omega))) ?_
              rintro _ w ⟨rfl, hB⟩
              have S := S.below hB
              rcases Classical.em (mcheck x43 s a m M) with hg63 | hg63
              · rw [decide_eq_true hg63]
                refine pg_val rfl rfl rfl rfl rfl (e_pick_f rfl rfl) ?_
                refine p_val (e_pick_t rfl rfl) rfl ?_
                refine p_val (e_move (v := .bool _) rfl) rfl ?_
                refine p_val (e_pick_t rfl rfl) rfl ?_
                refine p_val (e_move (v := .bool _) rfl) rfl ?_
                refine pg_does rfl rfl rfl rfl rfl (d_call Try.func39 nm39 rfl rfl (l3awake _)) ?_
                rintro _ w ⟨rfl, hB⟩
                have S := S.below hB
                refine p_val (e_pick_t rfl rfl) rfl ?_
                refine p_val (e_assign (v := .bool _) rfl) rfl ?_
                exact p_nil (x_then ⟨_, rfl, _, _, upds_eq ⟨rfl, trivial⟩, by first | (simp only [decide_eq_true_eq, eq_self, true_iff, iff_true, iff_false, Bool.false_eq_true, false_iff, ge_iff_le, gt_iff_lt, true_and, and_true, false_and, and_false, true_or, or_true, false_or, or_false, not_true_eq_false, not_false_eq_true]; omega) | simp | omega | simp_all, S⟩)
              · exact False.elim (by first | exact absurd hg56 (by decide) | exact hg63 ⟨by omega, by omega, by omega, by rw [hk43]; simp⟩)
          · exact False.elim (by first | exact dec_ne ⟨fun h => Option.some.inj (by have h9 := h.2.2.2; rw [hk43] at h9; simpa using h9), fun h => ⟨by omega, by omega, by omega, by rw [hk43, h]; simp⟩⟩ hg53 | (have hq : mcheck r s a m M := by { simpa using hg53 }; have h9 := hq.2.2.2; rw [hk43] at h9; simp at h9))
        · skip
          refine p_val (e_move (v := .bool _) rfl) rfl ?_
          refine p_no rfl rfl rfl rfl rfl ?_
          refine p_no rfl rfl rfl rfl rfl ?_
          refine p_no rfl rfl rfl rfl rfl ?_
          refine p_val (e_pick_f rfl rfl) rfl ?_
          refine p_valb (e_eqlB rfl rfl Try.underlying4) rfl (fun hg53 => ?_) (fun hg53 => ?_)
          · refine p_val (e_move (v := .bool _) rfl) rfl ?_
            refine pg_val rfl rfl rfl rfl rfl (e_move (v := .bool _) rfl) ?_
            -- TODO split at a move
            refine pg_valb rfl rfl rfl rfl rfl (e_not rfl) (fun hg56 => ?_) (fun hg56 => ?_)
            · refine pg_val rfl rfl rfl rfl rfl (e_move (v := .bool _) rfl) ?_
              refine p_no rfl rfl rfl rfl rfl ?_
              refine p_no rfl rfl rfl rfl rfl ?_
              refine p_no rfl rfl rfl rfl rfl ?_
              refine p_no rfl rfl rfl rfl rfl ?_
              refine p_no rfl rfl rfl rfl rfl ?_
              refine p_no rfl rfl rfl rfl rfl ?_
              refine pg_val rfl rfl rfl rfl rfl (e_pick_t rfl rfl) ?_
              refine p_val (e_pick_t rfl rfl) rfl ?_
              refine p_val (e_move (v := .bool _) rfl) rfl ?_
              refine p_val (e_pick_t rfl rfl) rfl ?_
              refine p_val (e_move (v := .bool _) rfl) rfl ?_
              refine pg_does rfl rfl rfl rfl rfl (d_call Try.func39 nm39 rfl rfl (l3awake _)) ?_
              rintro _ w ⟨rfl, hB⟩
              have S := S.below hB
              refine p_val (e_pick_t rfl rfl) rfl ?_
              refine p_val (e_assign (v := .bool _) rfl) rfl ?_
              exact p_nil (x_then ⟨_, rfl, _, _, upds_eq ⟨rfl, trivial⟩, by first | (simp only [decide_eq_true_eq, eq_self, true_iff, iff_true, iff_false, Bool.false_eq_true, false_iff, ge_iff_le, gt_iff_lt, true_and, and_true, false_and, and_false, true_or, or_true, false_or, or_false, not_true_eq_false, not_false_eq_true]; omega) | simp | omega | simp_all, S⟩)
            · refine pg_val rfl rfl rfl rfl rfl (e_move (v := .bool _) rfl) ?_
              refine pg_val rfl rfl rfl rfl rfl (e_loadW 0 rfl ag29 sz29 S rfl rfl (by first | with_reducible assumption | (rw [bv_length]; with_reducible assumption) | (rw [List.size_toArray, bv_length]; with_reducible assumption) | (simp [cat, hr, hs, length_mleaf, length_mroot]; done) | (simp [cat, hr, hs, length_mleaf, length_mroot]; omega) | rfl)) ?_
              refine pg_val rfl rfl rfl rfl rfl (e_loadW 1 rfl ag29 sz29 S rfl rfl (by first | with_reducible assumption | (rw [bv_length]; with_reducible assumption) | (rw [List.size_toArray, bv_length]; with_reducible assumption) | (simp [cat, hr, hs, length_mleaf, length_mroot]; done) | (simp [cat, hr, hs, length_mleaf, length_mroot]; omega) | rfl)) ?_
              refine pg_val rfl rfl rfl rfl rfl (e_move (v := .int _ _) rfl) ?_
              refine pg_val rfl rfl rfl rfl rfl (e_move (v := .int _ _) rfl) ?_
              refine pg_val rfl rfl rfl rfl rfl (e_move (v := .slice _ _ _) rfl) ?_
              refine pg_does rfl rfl rfl rfl rfl (d_call Try.func38 nm38 rfl rfl (mk_check _ _ _ _ _ _ _ M (by with_reducible assumption) hs (S.rdOld RM rfl) hM (by omega))) ?_
              rintro _ w ⟨rfl, hB⟩
              have S := S.below hB
              rcases Classical.em (mcheck x43 s a m M) with hg63 | hg63
              · rw [decide_eq_true hg63]
                refine pg_val rfl rfl rfl rfl rfl (e_pick_f rfl rfl) ?_
                refine p_val (e_pick_t rfl rfl) rfl ?_
                refine p_val (e_move (v := .bool _) rfl) rfl ?_
                refine p_val (e_pick_t rfl rfl) rfl ?_
                refine p_val (e_move (v := .bool _) rfl) rfl ?_
                refine pg_does rfl rfl rfl rfl rfl (d_call Try.func39 nm39 rfl rfl (l3awake _)) ?_
                rintro _ w ⟨rfl, hB⟩
                have S := S.below hB
                refine p_val (e_pick_t rfl rfl) rfl ?_
                refine p_val (e_assign (v := .bool _) rfl) rfl ?_
                exact p_nil (x_then ⟨_, rfl, _, _, upds_eq ⟨rfl, trivial⟩, by first | (simp only [decide_eq_true_eq, eq_self, true_iff, iff_true, iff_false, Bool.false_eq_true, false_iff, ge_iff_le, gt_iff_lt, true_and, and_true, false_and, and_false, true_or, or_true, false_or, or_false, not_true_eq_false, not_false_eq_true]; omega) | simp | omega | simp_all, S⟩)
              · exact False.elim (by first | exact absurd hg56 (by decide) | exact hg63 ⟨by omega, by omega, by omega, by rw [hk43]; simp⟩)
          · exact False.elim (by first | exact dec_ne ⟨fun h => Option.some.inj (by have h9 := h.2.2.2; rw [hk43] at h9; simpa using h9), fun h => ⟨by omega, by omega, by omega, by rw [hk43, h]; simp⟩⟩ hg53 | (have hq : mcheck r s a m M := by { simpa using hg53 }; have h9 := hq.2.2.2; rw [hk43] at h9; simp at h9))
      · rintro f w ⟨u, b10, rfl, hb10, S⟩
        refine x_then (s_ret ?_)
        exact post1 (v := .bool _) Try.results7 rfl (⟨by rw [hb10.2 trivial], S.to_below⟩)
theorem mclimbs_n (w0 : World) (r s : List Nat) (a m : Int) (A : Option Addr) (n c : Nat) (L : List (List Nat)) (hn : L.length = n) (hr : r.length = 32) (hs : s.length = 32) (R : Rd w0 32 A n (sv L)) (hL : All32 L) (cR : n ≤ c) :
     Ret Try.prog 7 [.agg (bv r).toArray, .agg (bv s).toArray, .int .i64 a, .int .i64 m, .slice A n c] w0 fun v w' => v = .bool true ∧ Below w0.heap.size w0 w' := by
  subst hn; exact mclimbs_calls w0 r s a m A c L hr hs R hL cR
end Go.Proofs.Ytdhfiamgmokfbaa
