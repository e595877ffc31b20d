/- Own texts, one behind the other: walks and laws that the statement needs. They prove no statement by themselves. -/
import Derived.Test.YtdhfiamgmokfbaaZP12c3
import Derived.KernelRfl
import Derived.Test.YtdhfiamgmokfbaaZP12c2
/- The third law's statements, walked. It proves no statement by itself. -/
set_option linter.unusedSimpArgs false
set_option linter.unusedVariables false
set_option maxRecDepth 100000
set_option maxHeartbeats 1000000
namespace Go.Proofs.Ytdhfiamgmokfbaa
open Go Go.RowKit E
attribute [local irreducible] wpList seqH treeH
theorem few_gen (w0 : World) (A : Option Addr) (c : Nat) (L M : List (List Nat)) (hn : L.length ≤ c) (hM : M = L.take 40) :
    Ret Try.prog 37 [.slice A L.length c] w0 fun v w' => v = .slice A M.length c ∧ Below w0.heap.size w0 w' := by
  subst hM; exact l3few w0 A c L hn
theorem mpath_rec {l : List (List Nat)} {a : Int} (h : 0 ≤ a ∧ a < (l.length : Int)) : mpath l a = mrecP l a.toNat := by
  unfold mpath mrecP
  rw [if_pos h]
  exact pathI_rec _ _ _ rfl (by rw [List.length_map]; omega)
theorem mpath_len (l : List (List Nat)) (a : Int) : (mpath l a).length ≤ l.length := by
  by_cases h : 0 ≤ a ∧ a < (l.length : Int)
  · rw [mpath_rec h]; exact mrecP_len _ _ _ rfl
  · unfold mpath; rw [if_neg h]; simp
theorem mroots_calls (w0 : World) (A : Option Addr) (c : Nat) (L : List (List Nat)) (a : Int) (s : List Nat) (R : Rd w0 32 A L.length (sv L)) (hL : All32 L) (cR : L.length ≤ c) (hs : s.length = 32) :
    Ret Try.prog 8 [.slice A L.length c, .int .i64 a, .agg (bv s).toArray] w0 fun v w' => v = .bool true ∧ Below w0.heap.size w0 w' := by
  refine enter Try.func8 rfl Try.ntmps8 (Nat.le_of_ble_eq_true rfl) ?_
  have S := St.init w0
  obtain ⟨M, hMe⟩ : ∃ M, M = L.take 40 := ⟨_, rfl⟩
  have hMl : M.length = min 40 L.length := by rw [hMe, List.length_take]
  have hM : All32 M := hMe ▸ hL.take 40
  have RM : Rd w0 32 A M.length (sv M) := by { have h9 := Rd.take_sv (m := M.length) hL R (by omega); rw [hMl] at h9 ⊢; rw [hMe]; rw [show L.take (min 40 L.length) = L.take 40 by rw [← hMl, hMe]; simp] at h9; exact h9 }
  refine s_seq (s_plain ?_)
  refine p_does (d_boxA S rfl) rfl ?_
  rintro _ w ⟨b5, rfl, S⟩
  refine p_val (e_assign (v := .bool _) rfl) rfl ?_
  refine p_nil (x_then (s_seq (s_plain ?_)))
  refine p_val (e_move (v := .slice _ _ _) rfl) rfl ?_
  refine p_does (d_call Try.func37 nm37 rfl rfl (few_gen _ _ _ _ _ cR hMe)) rfl ?_
  rintro _ w ⟨rfl, hB⟩
  have S := S.below hB
  refine p_val (e_assign (v := .slice _ _ _) rfl) rfl ?_
  refine p_nil (x_then (s_seq (s_plain ?_)))
  refine p_val (e_move (v := .int _ _) rfl) rfl ?_
  refine p_val (e_move (v := .slice _ _ _) rfl) rfl ?_
  refine p_does (d_call Try.func41 nm41 rfl rfl (mk_path _ _ _ _ _ (S.rdOld RM rfl) (by with_reducible assumption) (by omega))) rfl ?_
  rintro _ w ⟨k14, c14, rfl, T⟩
  have S := S.merge T rfl
  refine p_val (e_move (v := .tuple _) rfl) rfl ?_
  refine p_val (e_extract rfl rfl) rfl ?_
  refine p_val (e_extract rfl rfl) rfl ?_
  refine p_val (e_assign (v := .slice _ _ _) rfl) rfl ?_
  refine p_val (e_assign (v := .bool _) rfl) rfl ?_
  refine p_nil (x_then (s_seq (s_seq ?_)))
  refine s_cutK (ks := [k14, some b5]) (ps := [Rw _ _ _ _ _, Ex _ _]) [(0, .slice _ _ _), (1, .int _ _), (7, .slice _ _ _), (8, .bool _)] ⟨rfl, rfl, rfl, rfl, trivial⟩ S (fun keep ks ps f' w' => ∃ u bb, f' = upds u ((28, .bool bb) :: keep) ∧ (bb = true ↔ False) ∧ St w0 w' [] ks ps) ?_ ?_
  · refine s_drawK (ks := [k14, some b5]) (ps := [Rw _ _ _ _ _, Ex _ _]) S [(true, 0), (true, 2), (false, 1), (false, 3), (true, 4), (true, 5), (true, 6), (true, 8), (false, 7), (false, 9), (true, 10), (true, 11)] [] [] mixed (by kernel_rfl) (by repeat (first | exact Calm.post _ _ _ | refine Calm.then ?_ _ | refine Calm.inB ?_ _)) (fun hS => ?_)
    have S := S.drew
    refine q_val (fun w hS => e_move (v := .slice _ _ _) rfl) rfl hS ?_
    refine q_val (fun w hS => e_move (v := .slice _ _ _) rfl) rfl hS ?_
    refine q_does (d_call Try.func42 nm42 rfl rfl (mk_root _ _ _ _ (S.rdOld RM rfl) (by with_reducible assumption) (by omega))) rfl ?_
    rintro _ w ⟨rfl, hB⟩
    have S := S.below hB
    have hS := S.pk [0, 1] rfl
    refine ⟨hS, ?_⟩
    refine q_does (d_call Try.func43 nm43 rfl rfl (l3root _ _ _ _ _ (S.rdOld RM rfl) (by with_reducible assumption) rfl (by omega) (by omega))) rfl ?_
    rintro _ w ⟨rfl, hB⟩
    have S := S.below hB
    have hS := S.pk [0, 1] rfl
    refine ⟨hS, ?_⟩
    refine q_valB (fun w hS => EqT.sumN eq29 gd29 rfl rfl (by first | with_reducible assumption | (rw [bv_length]; with_reducible assumption) | (rw [List.size_toArray, bv_length]; with_reducible assumption) | (simp [cat, hs, length_mleaf, length_mroot]; done) | (simp [cat, hs, length_mleaf, length_mroot]; omega) | rfl) (by first | with_reducible assumption | (rw [bv_length]; with_reducible assumption) | (rw [List.size_toArray, bv_length]; with_reducible assumption) | (simp [cat, hs, length_mleaf, length_mroot]; done) | (simp [cat, hs, length_mleaf, length_mroot]; omega) | rfl)) rfl hS (fun hg21 => ?_) (fun hg21 => ?_)
    · exact False.elim (hg21 rfl)
    · refine q_val (fun w hS => e_move (v := .bool _) rfl) rfl hS ?_
      refine qg_val rfl rfl rfl rfl rfl (fun w hS => e_loadW 1 rfl ag29 sz29 hS rfl rfl (by first | with_reducible assumption | (rw [bv_length]; with_reducible assumption) | (rw [List.size_toArray, bv_length]; with_reducible assumption) | (simp [cat, hs, length_mleaf, length_mroot]; done) | (simp [cat, hs, length_mleaf, length_mroot]; omega) | rfl)) hS ?_
      refine qg_val rfl rfl rfl rfl rfl (fun w hS => e_loadW 1 rfl ag29 sz29 hS rfl rfl (by first | with_reducible assumption | (rw [bv_length]; with_reducible assumption) | (rw [List.size_toArray, bv_length]; with_reducible assumption) | (simp [cat, hs, length_mleaf, length_mroot]; done) | (simp [cat, hs, length_mleaf, length_mroot]; omega) | rfl)) hS ?_
      refine qg_does rfl rfl rfl rfl rfl (d_call Try.func44 nm44 rfl rfl (mk_leaf _ _ (by first | with_reducible assumption | (rw [bv_length]; with_reducible assumption) | (rw [List.size_toArray, bv_length]; with_reducible assumption) | (simp [cat, hs, length_mleaf, length_mroot]; done) | (simp [cat, hs, length_mleaf, length_mroot]; omega) | rfl))) ?_
      rintro _ w ⟨rfl, hB⟩
      have S := S.below hB
      have hS := S.pk [0, 1] rfl
      refine ⟨hS, ?_⟩
      refine qg_does rfl rfl rfl rfl rfl (d_call Try.func45 nm45 rfl rfl (l3leaf _ _ (by first | with_reducible assumption | (rw [bv_length]; with_reducible assumption) | (rw [List.size_toArray, bv_length]; with_reducible assumption) | (simp [cat, hs, length_mleaf, length_mroot]; done) | (simp [cat, hs, length_mleaf, length_mroot]; omega) | rfl))) ?_
      rintro _ w ⟨rfl, hB⟩
      have S := S.below hB
      have hS := S.pk [0, 1] rfl
      refine ⟨hS, ?_⟩
      refine qg_val rfl rfl rfl rfl rfl (fun w hS => EqT.sumN eq29 gd29 rfl rfl (by first | with_reducible assumption | (rw [bv_length]; with_reducible assumption) | (rw [List.size_toArray, bv_length]; with_reducible assumption) | (simp [cat, hs, length_mleaf, length_mroot]; done) | (simp [cat, hs, length_mleaf, length_mroot]; omega) | rfl) (by first | with_reducible assumption | (rw [bv_length]; with_reducible assumption) | (rw [List.size_toArray, bv_length]; with_reducible assumption) | (simp [cat, hs, length_mleaf, length_mroot]; done) | (simp [cat, hs, length_mleaf, length_mroot]; omega) | rfl)) hS ?_
      refine q_val (fun w hS => e_pick_f rfl rfl) rfl hS ?_
      refine q_nil ?_
      exact p_nil (x_then ⟨_, rfl, _, _, upds_eq ⟨rfl, rfl, rfl, rfl, rfl, trivial⟩, by first | (simp only [decide_eq_true_eq, eq_self, true_iff, iff_true, iff_false, Bool.false_eq_true, false_iff, ge_iff_le, gt_iff_lt, true_and, and_true, false_and, and_false, true_or, or_true, false_or, or_false, not_true_eq_false, not_false_eq_true]; omega) | simp | omega | simp_all, S⟩)
  · rintro f w ⟨u, b28, rfl, hb28, S⟩
    refine x_then ?_
    refine s_condb rfl (fun hc28 => ?_) (fun hc28 => ?_)
    · have hp28 : False := hb28.1 hc28
      refine s_seq (s_plain ?_)
      refine p_val (e_assign (v := .bool _) rfl) rfl ?_
      refine p_nil (x_then (s_ret (x_then_ret ?_)))
      exact post1 (v := .bool _) Try.results8 rfl (hp28.elim)
    · have hp28 : ¬ False := fun h => by rw [hb28.2 h] at hc28; cases hc28
      refine s_skip (x_then (s_seq (s_seq ?_)))
      refine s_cutK (ks := [k14, some b5]) (ps := [Rw _ _ _ _ _, Ex _ _]) [(0, .slice _ _ _), (1, .int _ _), (7, .slice _ _ _), (8, .bool _)] ⟨rfl, rfl, rfl, rfl, trivial⟩ S (fun keep ks ps f' w' => ∃ u bb, f' = upds u ((36, .bool bb) :: keep) ∧ (bb = true ↔ ((a < (0 : Int)) ∨ (((M.length : Nat) : Int) ≤ a))) ∧ St w0 w' [] ks ps) ?_ ?_
      · refine s_plain ?_
        refine p_val (e_move (v := .int _ _) rfl) rfl ?_
        refine p_valB (e_lss rfl rfl) rfl (fun hg30 => ?_) (fun hg30 => ?_)
        · refine p_val (e_move (v := .bool _) rfl) rfl ?_
          refine p_no rfl rfl rfl rfl rfl ?_
          refine p_no rfl rfl rfl rfl rfl ?_
          refine p_no rfl rfl rfl rfl rfl ?_
          refine p_no rfl rfl rfl rfl rfl ?_
          refine p_val (e_pick_t rfl rfl) rfl ?_
          exact p_nil (x_then ⟨_, rfl, _, _, upds_eq ⟨rfl, rfl, rfl, rfl, rfl, trivial⟩, by first | (simp only [decide_eq_true_eq, eq_self, true_iff, iff_true, iff_false, Bool.false_eq_true, false_iff, ge_iff_le, gt_iff_lt, true_and, and_true, false_and, and_false, true_or, or_true, false_or, or_false, not_true_eq_false, not_false_eq_true]; omega) | simp | omega | simp_all, S⟩)
        · refine p_val (e_move (v := .bool _) rfl) rfl ?_
          refine pg_val rfl rfl rfl rfl rfl (e_move (v := .int _ _) rfl) ?_
          refine pg_val rfl rfl rfl rfl rfl (e_move (v := .slice _ _ _) rfl) ?_
          refine pg_val rfl rfl rfl rfl rfl (e_len rfl Try.underlying24) ?_
          refine pg_val rfl rfl rfl rfl rfl (e_geq rfl rfl) ?_
          refine p_val (e_pick_f rfl rfl) rfl ?_
          exact p_nil (x_then ⟨_, rfl, _, _, upds_eq ⟨rfl, rfl, rfl, rfl, rfl, trivial⟩, by first | (simp only [decide_eq_true_eq, eq_self, true_iff, iff_true, iff_false, Bool.false_eq_true, false_iff, ge_iff_le, gt_iff_lt, true_and, and_true, false_and, and_false, true_or, or_true, false_or, or_false, not_true_eq_false, not_false_eq_true]; omega) | simp | omega | simp_all, S⟩)
      · rintro f w ⟨u, b36, rfl, hb36, S⟩
        refine x_then ?_
        refine s_condb rfl (fun hc36 => ?_) (fun hc36 => ?_)
        · have hp36 : ((a < (0 : Int)) ∨ (((M.length : Nat) : Int) ≤ a)) := hb36.1 hc36
          refine s_seq ?_
          refine s_cutK (ks := [k14, some b5]) (ps := [Rw _ _ _ _ _, Ex _ _]) [] trivial S (fun keep ks ps f' w' => ∃ u bb, f' = upds u ((6, .bool bb) :: keep) ∧ (bb = true ↔ True) ∧ St w0 w' [] ks ps) ?_ ?_
          · refine s_plain ?_
            refine p_val (e_move (v := .slice _ _ _) rfl) rfl ?_
            refine p_val (e_len rfl Try.underlying24) rfl ?_
            refine p_valB (e_eql rfl rfl) rfl (fun hg39 => ?_) (fun hg39 => ?_)
            · refine p_val (e_move (v := .bool _) rfl) rfl ?_
              rcases Classical.em (0 ≤ a ∧ a < (M.length : Int)) with hg41 | hg41
              · rw [decide_eq_true hg41]
                refine pg_val rfl rfl rfl rfl rfl (e_move (v := .bool _) rfl) ?_
                refine pg_val rfl rfl rfl rfl rfl (e_not rfl) ?_
                refine p_val (e_pick_t rfl rfl) rfl ?_
                refine p_val (e_move (v := .bool _) rfl) rfl ?_
                refine p_no rfl rfl rfl rfl rfl ?_
                refine p_val (e_pick_f rfl rfl) rfl ?_
                refine p_val (e_assign (v := .bool _) rfl) rfl ?_
                exact p_nil (x_then ⟨_, rfl, _, _, upds_eq ⟨rfl, trivial⟩, by first | (simp only [decide_eq_true_eq, eq_self, true_iff, iff_true, iff_false, Bool.false_eq_true, false_iff, ge_iff_le, gt_iff_lt, true_and, and_true, false_and, and_false, true_or, or_true, false_or, or_false, not_true_eq_false, not_false_eq_true]; omega) | simp | omega | simp_all, S⟩)
              · rw [decide_eq_false hg41]
                refine pg_val rfl rfl rfl rfl rfl (e_move (v := .bool _) rfl) ?_
                refine pg_val rfl rfl rfl rfl rfl (e_not rfl) ?_
                refine p_val (e_pick_t rfl rfl) rfl ?_
                refine p_val (e_move (v := .bool _) rfl) rfl ?_
                refine pg_does rfl rfl rfl rfl rfl (d_call Try.func39 nm39 rfl rfl (l3awake _)) ?_
                rintro _ w ⟨rfl, hB⟩
                have S := S.below hB
                refine p_val (e_pick_t rfl rfl) rfl ?_
                refine p_val (e_assign (v := .bool _) rfl) rfl ?_
                exact p_nil (x_then ⟨_, rfl, _, _, upds_eq ⟨rfl, trivial⟩, by first | (simp only [decide_eq_true_eq, eq_self, true_iff, iff_true, iff_false, Bool.false_eq_true, false_iff, ge_iff_le, gt_iff_lt, true_and, and_true, false_and, and_false, true_or, or_true, false_or, or_false, not_true_eq_false, not_false_eq_true]; omega) | simp | omega | simp_all, S⟩)
            · exact False.elim (hg39 (by unfold mpath; rw [if_neg (by omega)]; rfl))
          · rintro f w ⟨u, b6, rfl, hb6, S⟩
            refine x_then (s_ret (x_then_ret ?_))
            exact post1 (v := .bool _) Try.results8 rfl (⟨by rw [hb6.2 trivial], S.to_below⟩)
        · have hp36 : ¬ ((a < (0 : Int)) ∨ (((M.length : Nat) : Int) ≤ a)) := fun h => by rw [hb36.2 h] at hc36; cases hc36
          refine s_skip (x_then (s_seq ?_))
          refine s_cutK (ks := [k14, some b5]) (ps := [Rw _ _ _ _ _, Ex _ _]) [] trivial S (fun keep ks ps f' w' => ∃ u bb, f' = upds u ((6, .bool bb) :: keep) ∧ (bb = true ↔ True) ∧ St w0 w' [] ks ps) ?_ ?_
          · refine s_plain ?_
            rcases Classical.em (0 ≤ a ∧ a < (M.length : Int)) with hg47 | hg47
            · rw [decide_eq_true hg47]
              refine p_val (e_move (v := .bool _) rfl) rfl ?_
              refine p_val (e_move (v := .bool _) rfl) rfl ?_
              refine pg_val rfl rfl rfl rfl rfl (e_move (v := .slice _ _ _) rfl) ?_
              refine pg_val rfl rfl rfl rfl rfl (e_move (v := .slice _ _ _) rfl) ?_
              refine pg_val rfl rfl rfl rfl rfl (e_move (v := .int _ _) rfl) ?_
              refine pg_does rfl rfl rfl rfl rfl (d_call Try.func47 nm47 rfl rfl (l3path _ _ a.toNat (by omega) _ _ _ M (S.rdOld RM rfl) hM rfl (by omega) (by omega) (by omega))) ?_
              rintro _ w ⟨k52, c52, rfl, T⟩
              have S := S.merge T rfl
              refine pg_does rfl rfl rfl rfl rfl (d_call Try.func46 nm46 rfl rfl (l3same _ _ _ _ _ (mpath M a) (mrecP M a.toNat) (S.rdRw 1 rfl rfl) (mpath_all M a) (S.rdRw 0 rfl rfl) (mrecP_all _ M _ rfl) (by have := mpath_len M a; omega))) ?_
              rintro _ w ⟨rfl, hB⟩
              have S := S.below hB
              rcases Classical.em (mpath M a = mrecP M a.toNat) with hg53 | hg53
              · rw [decide_eq_true hg53]
                refine p_val (e_pick_t rfl rfl) rfl ?_
                refine p_val (e_move (v := .bool _) rfl) rfl ?_
                refine pg_does rfl rfl rfl rfl rfl (d_call Try.func39 nm39 rfl rfl (l3awake _)) ?_
                rintro _ w ⟨rfl, hB⟩
                have S := S.below hB
                refine p_val (e_pick_t rfl rfl) rfl ?_
                refine p_val (e_assign (v := .bool _) rfl) rfl ?_
                exact p_nil (x_then ⟨_, rfl, _, _, upds_eq ⟨rfl, trivial⟩, by first | (simp only [decide_eq_true_eq, eq_self, true_iff, iff_true, iff_false, Bool.false_eq_true, false_iff, ge_iff_le, gt_iff_lt, true_and, and_true, false_and, and_false, true_or, or_true, false_or, or_false, not_true_eq_false, not_false_eq_true]; omega) | simp | omega | simp_all, S.pk [1, 2] rfl⟩)
              · exact False.elim (hg53 (mpath_rec (by omega)))
            · rw [decide_eq_false hg47]
              refine p_val (e_move (v := .bool _) rfl) rfl ?_
              refine p_val (e_move (v := .bool _) rfl) rfl ?_
              refine p_no rfl rfl rfl rfl rfl ?_
              refine p_no rfl rfl rfl rfl rfl ?_
              refine p_no rfl rfl rfl rfl rfl ?_
              refine p_no rfl rfl rfl rfl rfl ?_
              refine p_no rfl rfl rfl rfl rfl ?_
              refine p_val (e_pick_f rfl rfl) rfl ?_
              refine p_val (e_move (v := .bool _) rfl) rfl ?_
              refine p_no rfl rfl rfl rfl rfl ?_
              refine p_val (e_pick_f rfl rfl) rfl ?_
              refine p_val (e_assign (v := .bool _) rfl) rfl ?_
              exact p_nil (x_then ⟨_, rfl, _, _, upds_eq ⟨rfl, trivial⟩, by first | (simp only [decide_eq_true_eq, eq_self, true_iff, iff_true, iff_false, Bool.false_eq_true, false_iff, ge_iff_le, gt_iff_lt, true_and, and_true, false_and, and_false, true_or, or_true, false_or, or_false, not_true_eq_false, not_false_eq_true]; omega) | simp | omega | simp_all, S⟩)
          · rintro f w ⟨u, b6, rfl, hb6, S⟩
            refine x_then (s_ret ?_)
            exact post1 (v := .bool _) Try.results8 rfl (⟨by rw [hb6.2 trivial], S.to_below⟩)
theorem mroots_n (w0 : World) (A : Option Addr) (n c : Nat) (L : List (List Nat)) (a : Int) (s : List Nat) (hn : L.length = n) (R : Rd w0 32 A n (sv L)) (hL : All32 L) (cR : n ≤ c) (hs : s.length = 32) :
     Ret Try.prog 8 [.slice A n c, .int .i64 a, .agg (bv s).toArray] w0 fun v w' => v = .bool true ∧ Below w0.heap.size w0 w' := by
  subst hn; exact mroots_calls w0 A c L a s R hL cR hs
theorem mclimbs_calls (w0 : World) (r s : List Nat) (a m : Int) (A : Option Addr) (c : Nat) (L : List (List Nat)) (hr : r.length = 32) (hs : s.length = 32) (R : Rd w0 32 A L.length (sv L)) (hL : All32 L) (cR : L.length ≤ c) :
    Ret Try.prog 7 [.agg (bv r).toArray, .agg (bv s).toArray, .int .i64 a, .int .i64 m, .slice A L.length c] w0 fun v w' => v = .bool true ∧ Below w0.heap.size w0 w' := by
  refine enter Try.func7 rfl Try.ntmps7 (Nat.le_of_ble_eq_true rfl) ?_
  have S := St.init w0
  obtain ⟨M, hMe⟩ : ∃ M, M = L.take 40 := ⟨_, rfl⟩
  have hMl : M.length = min 40 L.length := by rw [hMe, List.length_take]
  have hM : All32 M := hMe ▸ hL.take 40
  have RM : Rd w0 32 A M.length (sv M) := by { have h9 := Rd.take_sv (m := M.length) hL R (by omega); rw [hMl] at h9 ⊢; rw [hMe]; rw [show L.take (min 40 L.length) = L.take 40 by rw [← hMl, hMe]; simp] at h9; exact h9 }
  refine s_seq (s_plain ?_)
  refine p_does (d_boxA S rfl) rfl ?_
  rintro _ w ⟨b5, rfl, S⟩
  refine p_does (d_boxA S rfl) rfl ?_
  rintro _ w ⟨b6, rfl, S⟩
  refine p_val (e_assign (v := .bool _) rfl) rfl ?_
  refine p_nil (x_then (s_seq (s_plain ?_)))
  refine p_val (e_move (v := .slice _ _ _) rfl) rfl ?_
  refine p_does (d_call Try.func37 nm37 rfl rfl (few_gen _ _ _ _ _ cR hMe)) rfl ?_
  rintro _ w ⟨rfl, hB⟩
  have S := S.below hB
  refine p_val (e_assign (v := .slice _ _ _) rfl) rfl ?_
  refine p_nil (x_then (s_seq (s_plain ?_)))
  refine p_val (e_loadW 1 rfl ag29 sz29 S rfl rfl (by first | with_reducible assumption | (rw [bv_length]; with_reducible assumption) | (rw [List.size_toArray, bv_length]; with_reducible assumption) | (simp [cat, hr, hs, length_mleaf, length_mroot]; done) | (simp [cat, hr, hs, length_mleaf, length_mroot]; omega) | rfl)) rfl ?_
  refine p_val (e_loadW 0 rfl ag29 sz29 S rfl rfl (by first | with_reducible assumption | (rw [bv_length]; with_reducible assumption) | (rw [List.size_toArray, bv_length]; with_reducible assumption) | (simp [cat, hr, hs, length_mleaf, length_mroot]; done) | (simp [cat, hr, hs, length_mleaf, length_mroot]; omega) | rfl)) rfl ?_
  refine p_val (e_move (v := .int _ _) rfl) rfl ?_
  refine p_val (e_move (v := .int _ _) rfl) rfl ?_
  refine p_val (e_move (v := .slice _ _ _) rfl) rfl ?_
  refine p_does (d_call Try.func38 nm38 rfl rfl (mk_check _ _ _ _ _ _ _ M hr hs (S.rdOld RM rfl) hM (by omega))) rfl ?_
  rintro _ w ⟨rfl, hB⟩
  have S := S.below hB
  refine p_val (e_assign (v := .bool _) rfl) rfl ?_
  refine p_nil (x_then (s_seq (s_seq ?_)))
  refine s_cutK (ks := [some b6, some b5]) (ps := [Ex _ _, Ex _ _]) [(2, .int _ _), (3, .int _ _), (4, .slice _ _ _), (5, .pointer _), (6, .pointer _), (11, .bool _)] ⟨rfl, rfl, rfl, rfl, rfl, rfl, trivial⟩ S (fun keep ks ps f' w' => ∃ u bb, f' = upds u ((32, .bool bb) :: keep) ∧ (bb = true ↔ (((a < (0 : Int)) ∨ (m ≤ a)) ∨ ((4096 : Int) < m))) ∧ St w0 w' [] ks ps) ?_ ?_
  · refine s_plain ?_
    refine p_val (e_move (v := .int _ _) rfl) rfl ?_
    refine p_valB (e_lss rfl rfl) rfl (fun hg23 => ?_) (fun hg23 => ?_)
    · refine p_val (e_move (v := .bool _) rfl) rfl ?_
      refine p_no rfl rfl rfl rfl rfl ?_
      refine p_no rfl rfl rfl rfl rfl ?_
      refine p_no rfl rfl rfl rfl rfl ?_
      refine p_val (e_pick_t rfl rfl) rfl ?_
      refine p_val (e_move (v := .bool _) rfl) rfl ?_
      refine p_no rfl rfl rfl rfl rfl ?_
      refine p_no rfl rfl rfl rfl rfl ?_
      refine p_val (e_pick_t rfl rfl) rfl ?_
      exact p_nil (x_then ⟨_, rfl, _, _, upds_eq ⟨rfl, rfl, rfl, rfl, rfl, rfl, rfl, trivial⟩, by first | (simp only [decide_eq_true_eq, eq_self, true_iff, iff_true, iff_false, Bool.false_eq_true, false_iff, ge_iff_le, gt_iff_lt, true_and, and_true, false_and, and_false, true_or, or_true, false_or, or_false, not_true_eq_false, not_false_eq_true]; omega) | simp | omega | simp_all, S⟩)
    · refine p_val (e_move (v := .bool _) rfl) rfl ?_
      refine pg_val rfl rfl rfl rfl rfl (e_move (v := .int _ _) rfl) ?_
      refine pg_val rfl rfl rfl rfl rfl (e_move (v := .int _ _) rfl) ?_
      refine pg_valB rfl rfl rfl rfl rfl (e_geq rfl rfl) (fun hg27 => ?_) (fun hg27 => ?_)
      · refine p_val (e_pick_f rfl rfl) rfl ?_
        refine p_val (e_move (v := .bool _) rfl) rfl ?_
        refine p_no rfl rfl rfl rfl rfl ?_
        refine p_no rfl rfl rfl rfl rfl ?_
        refine p_val (e_pick_t rfl rfl) rfl ?_
        exact p_nil (x_then ⟨_, rfl, _, _, upds_eq ⟨rfl, rfl, rfl, rfl, rfl, rfl, rfl, trivial⟩, by first | (simp only [decide_eq_true_eq, eq_self, true_iff, iff_true, iff_false, Bool.false_eq_true, false_iff, ge_iff_le, gt_iff_lt, true_and, and_true, false_and, and_false, true_or, or_true, false_or, or_false, not_true_eq_false, not_false_eq_true]; omega) | simp | omega | simp_all, S⟩)
      · refine p_val (e_pick_f rfl rfl) rfl ?_
        refine p_val (e_move (v := .bool _) rfl) rfl ?_
        refine pg_val rfl rfl rfl rfl rfl (e_move (v := .int _ _) rfl) ?_
        refine pg_val rfl rfl rfl rfl rfl (e_gtr rfl rfl) ?_
        refine p_val (e_pick_f rfl rfl) rfl ?_
        exact p_nil (x_then ⟨_, rfl, _, _, upds_eq ⟨rfl, rfl, rfl, rfl, rfl, rfl, rfl, trivial⟩, by first | (simp only [decide_eq_true_eq, eq_self, true_iff, iff_true, iff_false, Bool.false_eq_true, false_iff, ge_iff_le, gt_iff_lt, true_and, and_true, false_and, and_false, true_or, or_true, false_or, or_false, not_true_eq_false, not_false_eq_true]; omega) | simp | omega | simp_all, S⟩)
  · rintro f w ⟨u, b32, rfl, hb32, S⟩
    refine x_then ?_
    refine s_condb rfl (fun hc32 => ?_) (fun hc32 => ?_)
    · have hp32 : (((a < (0 : Int)) ∨ (m ≤ a)) ∨ ((4096 : Int) < m)) := hb32.1 hc32
      refine s_seq ?_
      refine s_cutK (ks := [some b6, some b5]) (ps := [Ex _ _, Ex _ _]) [] trivial S (fun keep ks ps f' w' => ∃ u bb, f' = upds u ((10, .bool bb) :: keep) ∧ (bb = true ↔ True) ∧ St w0 w' [] ks ps) ?_ ?_
      · refine s_plain ?_
        rcases Classical.em (mcheck r s a m M) with hg33 | hg33
        · exact False.elim (by have h1 := hg33.1; have h2 := hg33.2.1; have h3 := hg33.2.2.1; omega)
        · rw [decide_eq_false hg33]
          refine p_val (e_move (v := .bool _) rfl) rfl ?_
          refine p_val (e_not rfl) rfl ?_
          refine p_val (e_move (v := .bool _) rfl) rfl ?_
          refine pg_does rfl rfl rfl rfl rfl (d_call Try.func39 nm39 rfl rfl (l3awake _)) ?_
          rintro _ w ⟨rfl, hB⟩
          have S := S.below hB
          refine p_val (e_pick_t rfl rfl) rfl ?_
          refine p_val (e_assign (v := .bool _) rfl) rfl ?_
          exact p_nil (x_then ⟨_, rfl, _, _, upds_eq ⟨rfl, trivial⟩, by first | (simp only [decide_eq_true_eq, eq_self, true_iff, iff_true, iff_false, Bool.false_eq_true, false_iff, ge_iff_le, gt_iff_lt, true_and, and_true, false_and, and_false, true_or, or_true, false_or, or_false, not_true_eq_false, not_false_eq_true]; omega) | simp | omega | simp_all, S⟩)
      · rintro f w ⟨u, b10, rfl, hb10, S⟩
        refine x_then (s_ret (x_then_ret ?_))
        exact post1 (v := .bool _) Try.results7 rfl (⟨by rw [hb10.2 trivial], S.to_below⟩)
    · have hp32 : ¬ (((a < (0 : Int)) ∨ (m ≤ a)) ∨ ((4096 : Int) < m)) := fun h => by rw [hb32.2 h] at hc32; cases hc32
      refine s_skip (x_then (s_seq (s_plain ?_)))
      refine p_val (e_loadW 0 rfl ag29 sz29 S rfl rfl (by first | with_reducible assumption | (rw [bv_length]; with_reducible assumption) | (rw [List.size_toArray, bv_length]; with_reducible assumption) | (simp [cat, hr, hs, length_mleaf, length_mroot]; done) | (simp [cat, hr, hs, length_mleaf, length_mroot]; omega) | rfl)) rfl ?_
      refine p_val (e_move (v := .int _ _) rfl) rfl ?_
      refine p_val (e_move (v := .int _ _) rfl) rfl ?_
      refine p_val (e_move (v := .slice _ _ _) rfl) rfl ?_
      refine p_does (d_call Try.func40 nm40 rfl rfl (l3climb _ _ _ _ _ _ M hs (S.rdOld RM rfl) hM (by omega) (by omega) (by omega) (by omega))) rfl ?_
      rintro _ w ⟨x43, b43, rfl, hx43, hk43, T⟩
      have S := S.below T
      refine p_val (e_move (v := .tuple _) rfl) rfl ?_
      refine p_val (e_extract rfl rfl) rfl ?_
      refine p_val (e_extract rfl rfl) rfl ?_
      refine p_does (d_allocA S zvS) rfl ?_
      rintro _ w ⟨b12, rfl, S⟩
      refine p_does (d_storeW S 0 rfl rfl (by first | exact bv_one _ | exact sv_one _ | exact iv_one _ | with_reducible assumption | (refine One.mem ?_; repeat (first | exact One.bv _ | exact One.sv _ | exact One.iv _ | exact One.nil | exact One.cat0 | refine One.cat1 ?_ ?_ | refine One.cons rfl ?_ | refine One.append ?_ ?_))) sz29 (by first | with_reducible assumption | (rw [bv_length]; with_reducible assumption) | (rw [List.size_toArray, bv_length]; with_reducible assumption) | (simp [cat, hr, hs, length_mleaf, length_mroot]; done) | (simp [cat, hr, hs, length_mleaf, length_mroot]; omega) | rfl) rfl rfl (by first | with_reducible assumption | (rw [bv_length]; with_reducible assumption) | (rw [List.size_toArray, bv_length]; with_reducible assumption) | (simp [cat, hr, hs, length_mleaf, length_mroot]; done) | (simp [cat, hr, hs, length_mleaf, length_mroot]; omega) | rfl)) rfl ?_
      intro _ w S
      refine p_val (e_assign (v := .bool _) rfl) rfl ?_
      refine p_nil (x_then (s_seq ?_))
      refine s_cutK (ks := [some b12, some b6, some b5]) (ps := [Ex _ _, Ex _ _, Ex _ _]) [] trivial S (fun keep ks ps f' w' => ∃ u bb, f' = upds u ((10, .bool bb) :: keep) ∧ (bb = true ↔ True) ∧ St w0 w' [] ks ps) ?_ ?_
      · refine s_plain ?_
        refine p_val (e_move (v := .bool _) rfl) rfl ?_
        refine p_val (e_move (v := .bool _) rfl) rfl ?_
        -- TODO split at a move
        rcases Bool.eq_false_or_eq_true b43 with rfl | rfl
        · skip
          refine p_val (e_move (v := .bool _) rfl) rfl ?_
          refine pg_val rfl rfl rfl rfl rfl (e_loadW 0 rfl ag29 sz29 S rfl rfl (by first | with_reducible assumption | (rw [bv_length]; with_reducible assumption) | (rw [List.size_toArray, bv_length]; with_reducible assumption) | (simp [cat, hr, hs, length_mleaf, length_mroot]; done) | (simp [cat, hr, hs, length_mleaf, length_mroot]; omega) | rfl)) ?_
          refine pg_val rfl rfl rfl rfl rfl (e_loadW 2 rfl ag29 sz29 S rfl rfl (by first | with_reducible assumption | (rw [bv_length]; with_reducible assumption) | (rw [List.size_toArray, bv_length]; with_reducible assumption) | (simp [cat, hr, hs, length_mleaf, length_mroot]; done) | (simp [cat, hr, hs, length_mleaf, length_mroot]; omega) | rfl)) ?_
          refine pg_val rfl rfl rfl rfl rfl (EqT.sum eq29 gd29 rfl rfl (by first | with_reducible assumption | (rw [bv_length]; with_reducible assumption) | (rw [List.size_toArray, bv_length]; with_reducible assumption) | (simp [cat, hr, hs, length_mleaf, length_mroot]; done) | (simp [cat, hr, hs, length_mleaf, length_mroot]; omega) | rfl) (by first | with_reducible assumption | (rw [bv_length]; with_reducible assumption) | (rw [List.size_toArray, bv_length]; with_reducible assumption) | (simp [cat, hr, hs, length_mleaf, length_mroot]; done) | (simp [cat, hr, hs, length_mleaf, length_mroot]; omega) | rfl)) ?_
          refine p_val (e_pick_t rfl rfl) rfl ?_
          refine p_valb (e_eqlB rfl rfl Try.underlying4) rfl (fun hg53 => ?_) (fun hg53 => ?_)
          · refine p_val (e_move (v := .bool _) rfl) rfl ?_
            refine pg_val rfl rfl rfl rfl rfl (e_move (v := .bool _) rfl) ?_
            -- TODO split at a move
            refine pg_valb rfl rfl rfl rfl rfl (e_not rfl) (fun hg56 => ?_) (fun hg56 => ?_)
            · refine pg_val rfl rfl rfl rfl rfl (e_move (v := .bool _) rfl) ?_
              refine p_no rfl rfl rfl rfl rfl ?_
              refine p_no rfl rfl rfl rfl rfl ?_
              refine p_no rfl rfl rfl rfl rfl ?_
              refine p_no rfl rfl rfl rfl rfl ?_
              refine p_no rfl rfl rfl rfl rfl ?_
              refine p_no rfl rfl rfl rfl rfl ?_
              refine pg_val rfl rfl rfl rfl rfl (e_pick_t rfl rfl) ?_
              refine p_val (e_pick_t rfl rfl) rfl ?_
              refine p_val (e_move (v := .bool _) rfl) rfl ?_
              refine p_val (e_pick_t rfl rfl) rfl ?_
              refine p_val (e_move (v := .bool _) rfl) rfl ?_
              refine pg_does rfl rfl rfl rfl rfl (d_call Try.func39 nm39 rfl rfl (l3awake _)) ?_
              rintro _ w ⟨rfl, hB⟩
              have S := S.below hB
              refine p_val (e_pick_t rfl rfl) rfl ?_
              refine p_val (e_assign (v := .bool _) rfl) rfl ?_
              exact p_nil (x_then ⟨_, rfl, _, _, upds_eq ⟨rfl, trivial⟩, by first | (simp only [decide_eq_true_eq, eq_self, true_iff, iff_true, iff_false, Bool.false_eq_true, false_iff, ge_iff_le, gt_iff_lt, true_and, and_true, false_and, and_false, true_or, or_true, false_or, or_false, not_true_eq_false, not_false_eq_true]; omega) | simp | omega | simp_all, S⟩)
            · refine pg_val rfl rfl rfl rfl rfl (e_move (v := .bool _) rfl) ?_
              refine pg_val rfl rfl rfl rfl rfl (e_loadW 0 rfl ag29 sz29 S rfl rfl (by first | with_reducible assumption | (rw [bv_length]; with_reducible assumption) | (rw [List.size_toArray, bv_length]; with_reducible assumption) | (simp [cat, hr, hs, length_mleaf, length_mroot]; done) | (simp [cat, hr, hs, length_mleaf, length_mroot]; omega) | rfl)) ?_
              refine pg_val rfl rfl rfl rfl rfl (e_loadW 1 rfl ag29 sz29 S rfl rfl (by first | with_reducible assumption | (rw [bv_length]; with_reducible assumption) | (rw [List.size_toArray, bv_length]; with_reducible assumption) | (simp [cat, hr, hs, length_mleaf, length_mroot]; done) | (simp [cat, hr, hs, length_mleaf, length_mroot]; omega) | rfl)) ?_
              refine pg_val rfl rfl rfl rfl rfl (e_move (v := .int _ _) rfl) ?_
              refine pg_val rfl rfl rfl rfl rfl (e_move (v := .int _ _) rfl) ?_
              refine pg_val rfl rfl rfl rfl rfl (e_move (v := .slice _ _ _) rfl) ?_
              refine pg_does rfl rfl rfl rfl rfl (d_call Try.func38 nm38 rfl rfl (mk_check _ _ _ _ _ _ _ M (by with_reducible assumption) hs (S.rdOld RM rfl) hM (by omega))) ?_
              rintro _ w ⟨rfl, hB⟩
              have S := S.below hB
              rcases Classical.em (mcheck x43 s a m M) with hg63 | hg63
              · rw [decide_eq_true hg63]
                refine pg_val rfl rfl rfl rfl rfl (e_pick_f rfl rfl) ?_
                refine p_val (e_pick_t rfl rfl) rfl ?_
                refine p_val (e_move (v := .bool _) rfl) rfl ?_
                refine p_val (e_pick_t rfl rfl) rfl ?_
                refine p_val (e_move (v := .bool _) rfl) rfl ?_
                refine pg_does rfl rfl rfl rfl rfl (d_call Try.func39 nm39 rfl rfl (l3awake _)) ?_
                rintro _ w ⟨rfl, hB⟩
                have S := S.below hB
                refine p_val (e_pick_t rfl rfl) rfl ?_
                refine p_val (e_assign (v := .bool _) rfl) rfl ?_
                exact p_nil (x_then ⟨_, rfl, _, _, upds_eq ⟨rfl, trivial⟩, by first | (simp only [decide_eq_true_eq, eq_self, true_iff, iff_true, iff_false, Bool.false_eq_true, false_iff, ge_iff_le, gt_iff_lt, true_and, and_true, false_and, and_false, true_or, or_true, false_or, or_false, not_true_eq_false, not_false_eq_true]; omega) | simp | omega | simp_all, S⟩)
              · exact False.elim (by first | exact absurd hg56 (by decide) | exact hg63 ⟨by omega, by omega, by omega, by rw [hk43]; simp⟩)
          · exact False.elim (by first | exact dec_ne ⟨fun h => Option.some.inj (by have h9 := h.2.2.2; rw [hk43] at h9; simpa using h9), fun h => ⟨by omega, by omega, by omega, by rw [hk43, h]; simp⟩⟩ hg53 | (have hq : mcheck r s a m M := by { simpa using hg53 }; have h9 := hq.2.2.2; rw [hk43] at h9; simp at h9))
        · skip
          refine p_val (e_move (v := .bool _) rfl) rfl ?_
          refine p_no rfl rfl rfl rfl rfl ?_
          refine p_no rfl rfl rfl rfl rfl ?_
          refine p_no rfl rfl rfl rfl rfl ?_
          refine p_val (e_pick_f rfl rfl) rfl ?_
          refine p_valb (e_eqlB rfl rfl Try.underlying4) rfl (fun hg53 => ?_) (fun hg53 => ?_)
          · refine p_val (e_move (v := .bool _) rfl) rfl ?_
            refine pg_val rfl rfl rfl rfl rfl (e_move (v := .bool _) rfl) ?_
            -- TODO split at a move
            refine pg_valb rfl rfl rfl rfl rfl (e_not rfl) (fun hg56 => ?_) (fun hg56 => ?_)
            · refine pg_val rfl rfl rfl rfl rfl (e_move (v := .bool _) rfl) ?_
              refine p_no rfl rfl rfl rfl rfl ?_
              refine p_no rfl rfl rfl rfl rfl ?_
              refine p_no rfl rfl rfl rfl rfl ?_
              refine p_no rfl rfl rfl rfl rfl ?_
              refine p_no rfl rfl rfl rfl rfl ?_
              refine p_no rfl rfl rfl rfl rfl ?_
              refine pg_val rfl rfl rfl rfl rfl (e_pick_t rfl rfl) ?_
              refine p_val (e_pick_t rfl rfl) rfl ?_
              refine p_val (e_move (v := .bool _) rfl) rfl ?_
              refine p_val (e_pick_t rfl rfl) rfl ?_
              refine p_val (e_move (v := .bool _) rfl) rfl ?_
              refine pg_does rfl rfl rfl rfl rfl (d_call Try.func39 nm39 rfl rfl (l3awake _)) ?_
              rintro _ w ⟨rfl, hB⟩
              have S := S.below hB
              refine p_val (e_pick_t rfl rfl) rfl ?_
              refine p_val (e_assign (v := .bool _) rfl) rfl ?_
              exact p_nil (x_then ⟨_, rfl, _, _, upds_eq ⟨rfl, trivial⟩, by first | (simp only [decide_eq_true_eq, eq_self, true_iff, iff_true, iff_false, Bool.false_eq_true, false_iff, ge_iff_le, gt_iff_lt, true_and, and_true, false_and, and_false, true_or, or_true, false_or, or_false, not_true_eq_false, not_false_eq_true]; omega) | simp | omega | simp_all, S⟩)
            · refine pg_val rfl rfl rfl rfl rfl (e_move (v := .bool _) rfl) ?_
              refine pg_val rfl rfl rfl rfl rfl (e_loadW 0 rfl ag29 sz29 S rfl rfl (by first | with_reducible assumption | (rw [bv_length]; with_reducible assumption) | (rw [List.size_toArray, bv_length]; with_reducible assumption) | (simp [cat, hr, hs, length_mleaf, length_mroot]; done) | (simp [cat, hr, hs, length_mleaf, length_mroot]; omega) | rfl)) ?_
              refine pg_val rfl rfl rfl rfl rfl (e_loadW 1 rfl ag29 sz29 S rfl rfl (by first | with_reducible assumption | (rw [bv_length]; with_reducible assumption) | (rw [List.size_toArray, bv_length]; with_reducible assumption) | (simp [cat, hr, hs, length_mleaf, length_mroot]; done) | (simp [cat, hr, hs, length_mleaf, length_mroot]; omega) | rfl)) ?_
              refine pg_val rfl rfl rfl rfl rfl (e_move (v := .int _ _) rfl) ?_
              refine pg_val rfl rfl rfl rfl rfl (e_move (v := .int _ _) rfl) ?_
              refine pg_val rfl rfl rfl rfl rfl (e_move (v := .slice _ _ _) rfl) ?_
              refine pg_does rfl rfl rfl rfl rfl (d_call Try.func38 nm38 rfl rfl (mk_check _ _ _ _ _ _ _ M (by with_reducible assumption) hs (S.rdOld RM rfl) hM (by omega))) ?_
              rintro _ w ⟨rfl, hB⟩
              have S := S.below hB
              rcases Classical.em (mcheck x43 s a m M) with hg63 | hg63
              · rw [decide_eq_true hg63]
                refine pg_val rfl rfl rfl rfl rfl (e_pick_f rfl rfl) ?_
                refine p_val (e_pick_t rfl rfl) rfl ?_
                refine p_val (e_move (v := .bool _) rfl) rfl ?_
                refine p_val (e_pick_t rfl rfl) rfl ?_
                refine p_val (e_move (v := .bool _) rfl) rfl ?_
                refine pg_does rfl rfl rfl rfl rfl (d_call Try.func39 nm39 rfl rfl (l3awake _)) ?_
                rintro _ w ⟨rfl, hB⟩
                have S := S.below hB
                refine p_val (e_pick_t rfl rfl) rfl ?_
                refine p_val (e_assign (v := .bool _) rfl) rfl ?_
                exact p_nil (x_then ⟨_, rfl, _, _, upds_eq ⟨rfl, trivial⟩, by first | (simp only [decide_eq_true_eq, eq_self, true_iff, iff_true, iff_false, Bool.false_eq_true, false_iff, ge_iff_le, gt_iff_lt, true_and, and_true, false_and, and_false, true_or, or_true, false_or, or_false, not_true_eq_false, not_false_eq_true]; omega) | simp | omega | simp_all, S⟩)
              · exact False.elim (by first | exact absurd hg56 (by decide) | exact hg63 ⟨by omega, by omega, by omega, by rw [hk43]; simp⟩)
          · exact False.elim (by first | exact dec_ne ⟨fun h => Option.some.inj (by have h9 := h.2.2.2; rw [hk43] at h9; simpa using h9), fun h => ⟨by omega, by omega, by omega, by rw [hk43, h]; simp⟩⟩ hg53 | (have hq : mcheck r s a m M := by { simpa using hg53 }; have h9 := hq.2.2.2; rw [hk43] at h9; simp at h9))
      · rintro f w ⟨u, b10, rfl, hb10, S⟩
        refine x_then (s_ret ?_)
        exact post1 (v := .bool _) Try.results7 rfl (⟨by rw [hb10.2 trivial], S.to_below⟩)
theorem mclimbs_n (w0 : World) (r s : List Nat) (a m : Int) (A : Option Addr) (n c : Nat) (L : List (List Nat)) (hn : L.length = n) (hr : r.length = 32) (hs : s.length = 32) (R : Rd w0 32 A n (sv L)) (hL : All32 L) (cR : n ≤ c) :
     Ret Try.prog 7 [.agg (bv r).toArray, .agg (bv s).toArray, .int .i64 a, .int .i64 m, .slice A n c] w0 fun v w' => v = .bool true ∧ Below w0.heap.size w0 w' := by
  subst hn; exact mclimbs_calls w0 r s a m A c L hr hs R hL cR
end Go.Proofs.Ytdhfiamgmokfbaa

/- Lamport's public keys. It proves no statement by itself. -/
set_option linter.unusedSimpArgs false
set_option linter.unusedVariables false
set_option maxRecDepth 100000
set_option maxHeartbeats 1000000
namespace Go.Proofs.Ytdhfiamgmokfbaa
open Go Go.RowKit E
def pubI (s : List Nat) (i : Nat) : Nat → List Nat
  | 0 => []
  | b + 1 => pubI s i b ++ lshown (lsec s (i : Int) ((b : Int) % 2))
def pubB (s : List Nat) : Nat → List Nat
  | 0 => []
  | i + 1 => pubB s i ++ pubI s i 2
@[irreducible] def lpub (s : List Nat) : List Nat := join 13 [pubB s 64]
theorem length_pubI (s : List Nat) (i : Nat) : ∀ b, (pubI s i b).length = 32 * b
  | 0 => rfl
  | b + 1 => by rw [pubI, List.length_append, length_pubI s i b, length_lshown]; omega
theorem length_pubB (s : List Nat) : ∀ i, (pubB s i).length = 64 * i
  | 0 => rfl
  | i + 1 => by rw [pubB, List.length_append, length_pubB s i, length_pubI]; omega
theorem length_lpub (s : List Nat) : (lpub s).length = 32 := by unfold lpub; exact length_join _ _
theorem lpub_calls (w0 : World) (s : List Nat) (hs : s.length = 32) :
    Ret Try.prog 31 [.agg (bv s).toArray] w0 fun v w' => v = .agg (bv (lpub s)).toArray ∧ Below w0.heap.size w0 w' := by
  refine enter Try.func31 rfl Try.ntmps31 (Nat.le_of_ble_eq_true rfl) ?_
  have S := St.init w0
  refine s_seq (s_plain ?_)
  refine p_does (d_boxA S rfl) rfl ?_
  rintro _ w ⟨b1, rfl, S⟩
  refine p_does (d_allocA S zv29) rfl ?_
  rintro _ w ⟨b2, rfl, S⟩
  refine p_nil (x_then (s_seq (s_plain ?_)))
  refine p_does (d_make0 S Try.underlying33 el5 4096 rfl rfl (by decide) (by decide)) rfl ?_
  rintro _ w ⟨b3, rfl, S⟩
  refine p_val (e_assign (v := .slice _ _ _) rfl) rfl ?_
  refine p_nil (x_then (s_seq (s_seq (s_plain ?_))))
  refine p_val (e_move (v := .int _ _) rfl) rfl ?_
  refine p_nil (x_then (s_block ?_))
  refine s_loop (α := Nat) (fun g f' w' => ∃ u k c m, f' = upds u [(1, .pointer (some ⟨b1, 0, none⟩)), (2, .pointer (some ⟨b2, 0, none⟩)), (3, .slice (at_ k) m c), (8, .int .i64 (g : Int))] ∧ g ≤ 64 ∧ m = 64 * g ∧ St w0 w' [] [k, some b2, some b1] [Rw 5 1 m c (bv (pubB s g)), Ex zl29.toArray 29, Ex (bv s).toArray 29]) (fun g => 64 - g) (0) (⟨_, _, _, _, upds_eq ⟨rfl, rfl, rfl, rfl, trivial⟩, by omega, rfl, S⟩) ?_
  rintro g f w ⟨u, k, c, m, rfl, hg, hm, S⟩
  refine s_seq (s_plain ?_)
  refine p_val (e_lss rfl rfl) rfl ?_
  refine p_nil (x_then (s_seq ?_))
  refine s_cond rfl (fun hc1 => ?_) (fun hc1 => ?_)
  · refine s_skip (x_then (s_seq (s_block (s_seq (s_plain ?_)))))
    refine p_val (e_move (v := .int _ _) rfl) rfl ?_
    refine p_val (e_assign (v := .int _ _) rfl) rfl ?_
    refine p_nil (x_then (s_seq (s_plain ?_)))
    refine p_val (e_move (v := .int _ _) rfl) rfl ?_
    refine p_nil (x_then (s_block ?_))
    refine s_loop (α := Nat) (fun h f' w' => ∃ u k c m, f' = upds u [(1, .pointer (some ⟨b1, 0, none⟩)), (2, .pointer (some ⟨b2, 0, none⟩)), (3, .slice (at_ k) m c), (4, .int .i64 (g : Int)), (8, .int .i64 (g : Int)), (11, .int .i64 (h : Int))] ∧ h ≤ 2 ∧ m = 64 * g + 32 * h ∧ St w0 w' [] [k, some b2, some b1] [Rw 5 1 m c (bv (pubB s g ++ pubI s g h)), Ex zl29.toArray 29, Ex (bv s).toArray 29]) (fun h => 2 - h) (0) (⟨_, _, _, _, upds_eq ⟨rfl, rfl, rfl, rfl, rfl, rfl, trivial⟩, by omega, by omega, S.asRw (by simp [pubI])⟩) ?_
    rintro h f w ⟨u, k, c, m, rfl, hh, hm, S⟩
    refine s_seq (s_plain ?_)
    refine p_val (e_lss rfl rfl) rfl ?_
    refine p_nil (x_then (s_seq ?_))
    refine s_cond rfl (fun hc2 => ?_) (fun hc2 => ?_)
    · refine s_skip (x_then (s_seq (s_block (s_seq (s_plain ?_)))))
      refine p_val (e_move (v := .int _ _) rfl) rfl ?_
      refine p_val (e_assign (v := .int _ _) rfl) rfl ?_
      refine p_nil (x_then (s_seq (s_plain ?_)))
      refine p_val (e_loadEx rfl ag29 sz29 S 2 rfl rfl (by simp [hs])) rfl ?_
      refine p_val (e_move (v := .int _ _) rfl) rfl ?_
      refine p_val (e_move (v := .int _ _) rfl) rfl ?_
      refine p_does (d_call Try.func35 nm35 rfl rfl (lsec_calls _ s (g : Int) (h : Int) hs)) rfl ?_
      rintro _ w ⟨rfl, hB⟩
      have S := S.below hB
      refine p_does (d_call Try.func36 nm36 rfl rfl (lshown_calls _ _ (length_lsec _ _ _))) rfl ?_
      rintro _ w ⟨rfl, hB⟩
      have S := S.below hB
      refine p_does (d_allocA S zv29) rfl ?_
      rintro _ w ⟨b10, rfl, S⟩
      refine p_does (d_storeW S 0 rfl rfl (bv_one _) sz29 (by simp [length_lshown]) rfl rfl (by rfl)) rfl ?_
      intro _ w S
      refine p_nil (x_then (s_plain ?_))
      refine p_val (e_move (v := .slice _ _ _) rfl) rfl ?_
      refine p_val (e_sl_arr rfl Try.underlying29 sz5) rfl ?_
      refine p_does (d_append S 1 rfl rfl Try.underlying33 el5 rfl rfl (S.rdBytes 0 rfl rfl (length_lshown _)) ((bv_one _)) (by omega) (by unfold maxLen; omega)) rfl ?_
      rintro _ w ⟨k21, c21, rfl, S⟩
      refine p_val (e_assign (v := .slice _ _ _) rfl) rfl ?_
      refine p_nil (x_in (x_then (s_plain ?_)))
      refine p_val (e_add64 rfl rfl (by omega)) rfl ?_
      refine p_val (e_move (v := .int _ _) rfl) rfl ?_
      refine p_nil ?_
      refine x_round (h + 1) _ rfl ⟨_, _, _, _, upds_eq ⟨rfl, rfl, rfl, rfl, rfl, rfl, trivial⟩, by omega, by omega, S.tail.asRw (by rw [← bv_append, List.append_assoc]; rfl)⟩ (by omega)
    · refine s_exit (x_then_exit (x_then_exit (x_in_same (x_in (x_then (s_plain ?_))))))
      refine p_val (e_add64 rfl rfl (by omega)) rfl ?_
      refine p_val (e_move (v := .int _ _) rfl) rfl ?_
      refine p_nil ?_
      refine x_round (g + 1) _ rfl ⟨_, _, _, _, upds_eq ⟨rfl, rfl, rfl, rfl, trivial⟩, by omega, by omega, S.asRw (by rw [show h = 2 by omega]; rfl)⟩ (by omega)
  · refine s_exit (x_then_exit (x_then_exit (x_in_same (x_then (s_seq (s_plain ?_))))))
    refine p_val (e_move (v := .slice _ _ _) rfl) rfl ?_
    refine p_does (d_lit1 S Try.underlying90 sz33 zv33 rfl (vs := [.slice _ _ _]) rfl rfl rfl (by decide)) rfl ?_
    rintro _ w ⟨b7, rfl, S⟩
    refine p_does (d_call Try.func19 nm19 rfl rfl (join_calls _ 13 _ _ [pubB s 64] (Parts.one (S.rdRw 0 rfl rfl) ((show g = 64 by omega) ▸ S.rdRw 1 rfl rfl)) (by simp [joinB, len4, length_pubB]) (by simp))) rfl ?_
    rintro _ w ⟨rfl, hB⟩
    have S := S.below hB
    refine p_does (d_storeW S 2 rfl rfl (bv_one _) sz29 (by simp [length_join]) rfl rfl (by rfl)) rfl ?_
    intro _ w S
    refine p_nil (x_then (s_ret ?_))
    exact postC Try.results31 S 2 rfl rfl rfl ag29 sz29 (by simp [length_join]) ⟨by unfold lpub; rfl, S.to_below⟩
end Go.Proofs.Ytdhfiamgmokfbaa

/- Lamport's signatures. It proves no statement by itself. -/
set_option linter.unusedSimpArgs false
set_option linter.unusedVariables false
set_option maxRecDepth 100000
set_option maxHeartbeats 2000000
namespace Go.Proofs.Ytdhfiamgmokfbaa
open Go Go.RowKit E
def sigS (s d : List Nat) (i : Nat) : List Nat := lsec s (i : Int) (((lbit d i : Nat) : Int) % 2)
def sigO (s d : List Nat) (i : Nat) : List Nat := lshown (lsec s (i : Int) ((1 - ((lbit d i : Nat) : Int)) % 2))
def sigB (s d : List Nat) : Nat → List Nat
  | 0 => []
  | i + 1 => sigB s d i ++ sigS s d i ++ sigO s d i
def lsig (s l : List Nat) : List Nat := sigB s (ldig l) 64
theorem length_sigS (s d : List Nat) (i : Nat) : (sigS s d i).length = 32 := length_lsec _ _ _
theorem length_sigO (s d : List Nat) (i : Nat) : (sigO s d i).length = 32 := length_lshown _
theorem length_sigB (s d : List Nat) : ∀ i, (sigB s d i).length = 64 * i
  | 0 => rfl
  | i + 1 => by rw [sigB, List.length_append, List.length_append, length_sigB s d i, length_sigS, length_sigO]; omega
theorem lsign_calls (w0 : World) (s : List Nat) (A : Option Addr) (n c0 : Nat) (l : List Nat) (hs : s.length = 32) (R : Rd w0 1 A n (bv l)) (hn : n ≤ 1099511620000) :
    Ret Try.prog 29 [.agg (bv s).toArray, .slice A n c0] w0 fun v w' => ∃ k c, v = .slice (at_ k) 4096 c ∧ St w0 w' [] [k] [Rw 5 1 4096 c (bv (lsig s l))] := by
  refine enter Try.func29 rfl Try.ntmps29 (Nat.le_of_ble_eq_true rfl) ?_
  have S := St.init w0
  refine s_seq (s_plain ?_)
  refine p_does (d_boxA S rfl) rfl ?_
  rintro _ w ⟨b1, rfl, S⟩
  refine p_val (e_assign (v := .slice _ _ _) rfl) rfl ?_
  refine p_nil (x_then (s_seq (s_plain ?_)))
  refine p_val (e_move (v := .slice _ _ _) rfl) rfl ?_
  refine p_does (d_call Try.func33 nm33 rfl rfl (ldig_calls _ A n c0 l (S.rdOld R rfl) hn)) rfl ?_
  rintro _ w ⟨rfl, hB⟩
  have S := S.below hB
  refine p_does (d_allocA S zv29) rfl ?_
  rintro _ w ⟨b2, rfl, S⟩
  refine p_does (d_storeW S 0 rfl rfl (bv_one _) sz29 (by simp [length_lsec, length_lshown, length_ldig]) rfl rfl (by rfl)) rfl ?_
  intro _ w S
  refine p_nil (x_then (s_seq (s_plain ?_)))
  refine p_does (d_make0 S Try.underlying33 el5 4096 rfl rfl (by decide) (by decide)) rfl ?_
  rintro _ w ⟨b3, rfl, S⟩
  refine p_val (e_assign (v := .slice _ _ _) rfl) rfl ?_
  refine p_nil (x_then (s_seq (s_seq (s_plain ?_))))
  refine p_val (e_move (v := .int _ _) rfl) rfl ?_
  refine p_nil (x_then (s_block ?_))
  refine s_loop (α := Nat) (fun g f' w' => ∃ u k c m, f' = upds u [(2, .pointer (some ⟨b1, 0, none⟩)), (5, .pointer (some ⟨b2, 0, none⟩)), (6, .slice (at_ k) m c), (14, .int .i64 (g : Int))] ∧ g ≤ 64 ∧ m = 64 * g ∧ St w0 w' [] [k, some b2, some b1] [Rw 5 1 m c (bv (sigB s (ldig l) g)), Ex (bv (ldig l)).toArray 29, Ex (bv s).toArray 29]) (fun g => 64 - g) (0) (⟨_, _, _, _, upds_eq ⟨rfl, rfl, rfl, rfl, trivial⟩, by omega, rfl, S⟩) ?_
  rintro g f w ⟨u, k, c, m, rfl, hg, hm, S⟩
  refine s_seq (s_plain ?_)
  refine p_val (e_lss rfl rfl) rfl ?_
  refine p_nil (x_then (s_seq ?_))
  refine s_cond rfl (fun hc1 => ?_) (fun hc1 => ?_)
  · refine s_skip (x_then (s_seq (s_block (s_seq (s_plain ?_)))))
    refine p_val (e_move (v := .int _ _) rfl) rfl ?_
    refine p_val (e_assign (v := .int _ _) rfl) rfl ?_
    refine p_nil (x_then (s_seq (s_plain ?_)))
    refine p_val (e_loadEx rfl ag29 sz29 S 1 rfl rfl (by simp [length_ldig])) rfl ?_
    refine p_val (e_move (v := .int _ _) rfl) rfl ?_
    refine p_does (d_call Try.func84 nm84 rfl rfl (lbit_calls _ (ldig l) g (length_ldig l) (by omega))) rfl ?_
    rintro _ w ⟨rfl, hB⟩
    have S := S.below hB
    refine p_val (e_assign (v := .int _ _) rfl) rfl ?_
    refine p_nil (x_then (s_seq ?_))
    have hbl := lbit_lt (ldig l) g
    refine s_cut (fun f f' w' => ∃ u y9 y10, f' = upds u [(2, .pointer (some ⟨b1, 0, none⟩)), (5, .pointer (some ⟨b2, 0, none⟩)), (6, .slice (at_ k) m c), (7, .int .i64 (g : Int)), (9, .pointer (some ⟨y9, 0, none⟩)), (10, .pointer (some ⟨y10, 0, none⟩)), (14, .int .i64 (g : Int))] ∧ St w0 w' [] [some y9, some y10, k, some b2, some b1] [Ex (bv (sigS s (ldig l) g)).toArray 29, Ex (bv (sigO s (ldig l) g)).toArray 29, Rw 5 1 m c (bv (sigB s (ldig l) g)), Ex (bv (ldig l)).toArray 29, Ex (bv s).toArray 29]) ?_ ?_
    · refine s_drawT (.sq [(true, 0), (true, 1), (true, 2), (true, 4), (true, 5), (true, 6), (true, 7)] (.fork 3 (.fork 8 (.fork 9 (.fork 10 (.sq [(false, 11), (false, 12)] .stop) (.fork 11 (.sq [(false, 10), (false, 12)] .stop) .none_)) (.fork 10 (.fork 9 (.sq [(false, 11), (false, 12)] .stop) (.fork 11 (.sq [(false, 9), (false, 12)] .stop) .none_)) (.fork 11 (.fork 9 (.sq [(false, 10), (false, 12)] .stop) (.fork 10 (.sq [(false, 9), (false, 12)] .stop) .none_)) .none_))) (.fork 10 (.fork 8 (.fork 9 (.sq [(false, 11), (false, 12)] .stop) (.fork 11 (.sq [(false, 9), (false, 12)] .stop) .none_)) (.fork 11 (.sq [(false, 8), (false, 9), (false, 12)] .stop) .none_)) (.fork 11 (.fork 8 (.fork 9 (.sq [(false, 10), (false, 12)] .stop) (.fork 10 (.sq [(false, 9), (false, 12)] .stop) .none_)) (.fork 10 (.sq [(false, 8), (false, 9), (false, 12)] .stop) .none_)) .none_))) (.fork 10 (.fork 3 (.fork 8 (.fork 9 (.sq [(false, 11), (false, 12)] .stop) (.fork 11 (.sq [(false, 9), (false, 12)] .stop) .none_)) (.fork 11 (.sq [(false, 8), (false, 9), (false, 12)] .stop) .none_)) (.fork 11 (.sq [(false, 3), (false, 8), (false, 9), (false, 12)] .stop) .none_)) (.fork 11 (.fork 3 (.fork 8 (.fork 9 (.sq [(false, 10), (false, 12)] .stop) (.fork 10 (.sq [(false, 9), (false, 12)] .stop) .none_)) (.fork 10 (.sq [(false, 8), (false, 9), (false, 12)] .stop) .none_)) (.fork 10 (.sq [(false, 3), (false, 8), (false, 9), (false, 12)] .stop) .none_)) .none_)))) [13] [13] (fun w' => St w0 w' [] [some b1] [Ex (bv s).toArray 29]) mixed (by kernel_rfl) (by repeat (first | exact Calm.post _ _ _ | refine Calm.then ?_ _ | refine Calm.inB ?_ _)) ?_
      have S := S.drew
      have hS := S.pk [2] rfl
      refine t_sq ?_
      refine q_val (fun w hS => e_loadEx rfl ag29 sz29 hS 0 rfl rfl (by simp [hs])) rfl hS ?_
      refine q_val (fun w hS => e_move (v := .int _ _) rfl) rfl hS ?_
      refine q_val (fun w hS => e_move (v := .int _ _) rfl) rfl hS ?_
      refine q_val (fun w hS => e_loadEx rfl ag29 sz29 hS 0 rfl rfl (by simp [hs])) rfl hS ?_
      refine q_val (fun w hS => e_move (v := .int _ _) rfl) rfl hS ?_
      refine q_val (fun w hS => e_move (v := .int _ _) rfl) rfl hS ?_
      refine q_val (fun w hS => e_sub64 rfl rfl (by omega)) rfl hS ?_
      refine q_nil ?_
      refine t_fork ?_ ?_
      · refine q_does (d_call Try.func35 nm35 rfl rfl (lsec_calls _ s (g : Int) ((lbit (ldig l) g : Nat) : Int) hs)) rfl ?_
        rintro _ w ⟨rfl, hB⟩
        have S := S.below hB; have hS := S.pk [2] rfl; refine ⟨hS, ?_⟩
        refine q_nil ?_
        refine t_fork ?_ ?_
        · refine q_does (d_call Try.func35 nm35 rfl rfl (lsec_calls _ s (g : Int) (1 - ((lbit (ldig l) g : Nat) : Int)) hs)) rfl ?_
          rintro _ w ⟨rfl, hB⟩
          have S := S.below hB; have hS := S.pk [2] rfl; refine ⟨hS, ?_⟩
          refine q_nil ?_
          refine t_fork ?_ ?_
          · refine q_does (d_call Try.func36 nm36 rfl rfl (lshown_calls _ _ (length_lsec _ _ _))) rfl ?_
            rintro _ w ⟨rfl, hB⟩
            have S := S.below hB; have hS := S.pk [2] rfl; refine ⟨hS, ?_⟩
            refine q_nil ?_
            refine t_fork ?_ ?_
            · refine q_does (d_allocA S zv29) rfl ?_
              rintro _ w ⟨y9, rfl, S⟩; have hS := S.pk [3] rfl; refine ⟨hS, ?_⟩
              refine q_nil ?_
              refine t_sq ?_
              refine q_does (d_allocA S zv29) rfl ?_
              rintro _ w ⟨y10, rfl, S⟩; have hS := S.pk [4] rfl; refine ⟨hS, ?_⟩
              refine q_does (d_storeW S 1 rfl rfl (bv_one _) sz29 (by simp [length_lsec, length_lshown, length_ldig]) rfl rfl (by rfl)) rfl ?_
              intro _ w S; have hS := S.pk [4] rfl; refine ⟨hS, ?_⟩
              refine q_nil ?_
              refine t_stop ?_
              refine p_does (d_storeW S 0 rfl rfl (bv_one _) sz29 (by simp [length_lsec, length_lshown, length_ldig]) rfl rfl (by rfl)) rfl ?_
              intro _ w S
              exact p_nil (x_then ⟨_, rfl, _, y9, y10, upds_eq ⟨rfl, rfl, rfl, rfl, rfl, rfl, rfl, trivial⟩, S.pk [1, 0, 2, 3, 4] rfl⟩)
            · refine t_fork ?_ ?_
              · refine q_does (d_allocA S zv29) rfl ?_
                rintro _ w ⟨y10, rfl, S⟩; have hS := S.pk [3] rfl; refine ⟨hS, ?_⟩
                refine q_nil ?_
                refine t_sq ?_
                refine q_does (d_allocA S zv29) rfl ?_
                rintro _ w ⟨y9, rfl, S⟩; have hS := S.pk [4] rfl; refine ⟨hS, ?_⟩
                refine q_does (d_storeW S 0 rfl rfl (bv_one _) sz29 (by simp [length_lsec, length_lshown, length_ldig]) rfl rfl (by rfl)) rfl ?_
                intro _ w S; have hS := S.pk [4] rfl; refine ⟨hS, ?_⟩
                refine q_nil ?_
                refine t_stop ?_
                refine p_does (d_storeW S 1 rfl rfl (bv_one _) sz29 (by simp [length_lsec, length_lshown, length_ldig]) rfl rfl (by rfl)) rfl ?_
                intro _ w S
                exact p_nil (x_then ⟨_, rfl, _, y9, y10, upds_eq ⟨rfl, rfl, rfl, rfl, rfl, rfl, rfl, trivial⟩, S.pk [0, 1, 2, 3, 4] rfl⟩)
              · exact t_none
          · refine t_fork ?_ ?_
            · refine q_does (d_allocA S zv29) rfl ?_
              rintro _ w ⟨y9, rfl, S⟩; have hS := S.pk [3] rfl; refine ⟨hS, ?_⟩
              refine q_nil ?_
              refine t_fork ?_ ?_
              · refine q_does (d_call Try.func36 nm36 rfl rfl (lshown_calls _ _ (length_lsec _ _ _))) rfl ?_
                rintro _ w ⟨rfl, hB⟩
                have S := S.below hB; have hS := S.pk [3] rfl; refine ⟨hS, ?_⟩
                refine q_nil ?_
                refine t_sq ?_
                refine q_does (d_allocA S zv29) rfl ?_
                rintro _ w ⟨y10, rfl, S⟩; have hS := S.pk [4] rfl; refine ⟨hS, ?_⟩
                refine q_does (d_storeW S 1 rfl rfl (bv_one _) sz29 (by simp [length_lsec, length_lshown, length_ldig]) rfl rfl (by rfl)) rfl ?_
                intro _ w S; have hS := S.pk [4] rfl; refine ⟨hS, ?_⟩
                refine q_nil ?_
                refine t_stop ?_
                refine p_does (d_storeW S 0 rfl rfl (bv_one _) sz29 (by simp [length_lsec, length_lshown, length_ldig]) rfl rfl (by rfl)) rfl ?_
                intro _ w S
                exact p_nil (x_then ⟨_, rfl, _, y9, y10, upds_eq ⟨rfl, rfl, rfl, rfl, rfl, rfl, rfl, trivial⟩, S.pk [1, 0, 2, 3, 4] rfl⟩)
              · refine t_fork ?_ ?_
                · refine q_does (d_allocA S zv29) rfl ?_
                  rintro _ w ⟨y10, rfl, S⟩; have hS := S.pk [4] rfl; refine ⟨hS, ?_⟩
                  refine q_nil ?_
                  refine t_sq ?_
                  refine q_does (d_call Try.func36 nm36 rfl rfl (lshown_calls _ _ (length_lsec _ _ _))) rfl ?_
                  rintro _ w ⟨rfl, hB⟩
                  have S := S.below hB; have hS := S.pk [4] rfl; refine ⟨hS, ?_⟩
                  refine q_does (d_storeW S 1 rfl rfl (bv_one _) sz29 (by simp [length_lsec, length_lshown, length_ldig]) rfl rfl (by rfl)) rfl ?_
                  intro _ w S; have hS := S.pk [4] rfl; refine ⟨hS, ?_⟩
                  refine q_nil ?_
                  refine t_stop ?_
                  refine p_does (d_storeW S 0 rfl rfl (bv_one _) sz29 (by simp [length_lsec, length_lshown, length_ldig]) rfl rfl (by rfl)) rfl ?_
                  intro _ w S
                  exact p_nil (x_then ⟨_, rfl, _, y9, y10, upds_eq ⟨rfl, rfl, rfl, rfl, rfl, rfl, rfl, trivial⟩, S.pk [1, 0, 2, 3, 4] rfl⟩)
                · exact t_none
            · refine t_fork ?_ ?_
              · refine q_does (d_allocA S zv29) rfl ?_
                rintro _ w ⟨y10, rfl, S⟩; have hS := S.pk [3] rfl; refine ⟨hS, ?_⟩
                refine q_nil ?_
                refine t_fork ?_ ?_
                · refine q_does (d_call Try.func36 nm36 rfl rfl (lshown_calls _ _ (length_lsec _ _ _))) rfl ?_
                  rintro _ w ⟨rfl, hB⟩
                  have S := S.below hB; have hS := S.pk [3] rfl; refine ⟨hS, ?_⟩
                  refine q_nil ?_
                  refine t_sq ?_
                  refine q_does (d_allocA S zv29) rfl ?_
                  rintro _ w ⟨y9, rfl, S⟩; have hS := S.pk [4] rfl; refine ⟨hS, ?_⟩
                  refine q_does (d_storeW S 0 rfl rfl (bv_one _) sz29 (by simp [length_lsec, length_lshown, length_ldig]) rfl rfl (by rfl)) rfl ?_
                  intro _ w S; have hS := S.pk [4] rfl; refine ⟨hS, ?_⟩
                  refine q_nil ?_
                  refine t_stop ?_
                  refine p_does (d_storeW S 1 rfl rfl (bv_one _) sz29 (by simp [length_lsec, length_lshown, length_ldig]) rfl rfl (by rfl)) rfl ?_
                  intro _ w S
                  exact p_nil (x_then ⟨_, rfl, _, y9, y10, upds_eq ⟨rfl, rfl, rfl, rfl, rfl, rfl, rfl, trivial⟩, S.pk [0, 1, 2, 3, 4] rfl⟩)
                · refine t_fork ?_ ?_
                  · refine q_does (d_allocA S zv29) rfl ?_
                    rintro _ w ⟨y9, rfl, S⟩; have hS := S.pk [4] rfl; refine ⟨hS, ?_⟩
                    refine q_nil ?_
                    refine t_sq ?_
                    refine q_does (d_call Try.func36 nm36 rfl rfl (lshown_calls _ _ (length_lsec _ _ _))) rfl ?_
                    rintro _ w ⟨rfl, hB⟩
                    have S := S.below hB; have hS := S.pk [4] rfl; refine ⟨hS, ?_⟩
                    refine q_does (d_storeW S 0 rfl rfl (bv_one _) sz29 (by simp [length_lsec, length_lshown, length_ldig]) rfl rfl (by rfl)) rfl ?_
                    intro _ w S; have hS := S.pk [4] rfl; refine ⟨hS, ?_⟩
                    refine q_nil ?_
                    refine t_stop ?_
                    refine p_does (d_storeW S 1 rfl rfl (bv_one _) sz29 (by simp [length_lsec, length_lshown, length_ldig]) rfl rfl (by rfl)) rfl ?_
                    intro _ w S
                    exact p_nil (x_then ⟨_, rfl, _, y9, y10, upds_eq ⟨rfl, rfl, rfl, rfl, rfl, rfl, rfl, trivial⟩, S.pk [0, 1, 2, 3, 4] rfl⟩)
                  · exact t_none
              · exact t_none
        · refine t_fork ?_ ?_
          · refine q_does (d_allocA S zv29) rfl ?_
            rintro _ w ⟨y9, rfl, S⟩; have hS := S.pk [3] rfl; refine ⟨hS, ?_⟩
            refine q_nil ?_
            refine t_fork ?_ ?_
            · refine q_does (d_call Try.func35 nm35 rfl rfl (lsec_calls _ s (g : Int) (1 - ((lbit (ldig l) g : Nat) : Int)) hs)) rfl ?_
              rintro _ w ⟨rfl, hB⟩
              have S := S.below hB; have hS := S.pk [3] rfl; refine ⟨hS, ?_⟩
              refine q_nil ?_
              refine t_fork ?_ ?_
              · refine q_does (d_call Try.func36 nm36 rfl rfl (lshown_calls _ _ (length_lsec _ _ _))) rfl ?_
                rintro _ w ⟨rfl, hB⟩
                have S := S.below hB; have hS := S.pk [3] rfl; refine ⟨hS, ?_⟩
                refine q_nil ?_
                refine t_sq ?_
                refine q_does (d_allocA S zv29) rfl ?_
                rintro _ w ⟨y10, rfl, S⟩; have hS := S.pk [4] rfl; refine ⟨hS, ?_⟩
                refine q_does (d_storeW S 1 rfl rfl (bv_one _) sz29 (by simp [length_lsec, length_lshown, length_ldig]) rfl rfl (by rfl)) rfl ?_
                intro _ w S; have hS := S.pk [4] rfl; refine ⟨hS, ?_⟩
                refine q_nil ?_
                refine t_stop ?_
                refine p_does (d_storeW S 0 rfl rfl (bv_one _) sz29 (by simp [length_lsec, length_lshown, length_ldig]) rfl rfl (by rfl)) rfl ?_
                intro _ w S
                exact p_nil (x_then ⟨_, rfl, _, y9, y10, upds_eq ⟨rfl, rfl, rfl, rfl, rfl, rfl, rfl, trivial⟩, S.pk [1, 0, 2, 3, 4] rfl⟩)
              · refine t_fork ?_ ?_
                · refine q_does (d_allocA S zv29) rfl ?_
                  rintro _ w ⟨y10, rfl, S⟩; have hS := S.pk [4] rfl; refine ⟨hS, ?_⟩
                  refine q_nil ?_
                  refine t_sq ?_
                  refine q_does (d_call Try.func36 nm36 rfl rfl (lshown_calls _ _ (length_lsec _ _ _))) rfl ?_
                  rintro _ w ⟨rfl, hB⟩
                  have S := S.below hB; have hS := S.pk [4] rfl; refine ⟨hS, ?_⟩
                  refine q_does (d_storeW S 1 rfl rfl (bv_one _) sz29 (by simp [length_lsec, length_lshown, length_ldig]) rfl rfl (by rfl)) rfl ?_
                  intro _ w S; have hS := S.pk [4] rfl; refine ⟨hS, ?_⟩
                  refine q_nil ?_
                  refine t_stop ?_
                  refine p_does (d_storeW S 0 rfl rfl (bv_one _) sz29 (by simp [length_lsec, length_lshown, length_ldig]) rfl rfl (by rfl)) rfl ?_
                  intro _ w S
                  exact p_nil (x_then ⟨_, rfl, _, y9, y10, upds_eq ⟨rfl, rfl, rfl, rfl, rfl, rfl, rfl, trivial⟩, S.pk [1, 0, 2, 3, 4] rfl⟩)
                · exact t_none
            · refine t_fork ?_ ?_
              · refine q_does (d_allocA S zv29) rfl ?_
                rintro _ w ⟨y10, rfl, S⟩; have hS := S.pk [4] rfl; refine ⟨hS, ?_⟩
                refine q_nil ?_
                refine t_sq ?_
                refine q_does (d_call Try.func35 nm35 rfl rfl (lsec_calls _ s (g : Int) (1 - ((lbit (ldig l) g : Nat) : Int)) hs)) rfl ?_
                rintro _ w ⟨rfl, hB⟩
                have S := S.below hB; have hS := S.pk [4] rfl; refine ⟨hS, ?_⟩
                refine q_does (d_call Try.func36 nm36 rfl rfl (lshown_calls _ _ (length_lsec _ _ _))) rfl ?_
                rintro _ w ⟨rfl, hB⟩
                have S := S.below hB; have hS := S.pk [4] rfl; refine ⟨hS, ?_⟩
                refine q_does (d_storeW S 1 rfl rfl (bv_one _) sz29 (by simp [length_lsec, length_lshown, length_ldig]) rfl rfl (by rfl)) rfl ?_
                intro _ w S; have hS := S.pk [4] rfl; refine ⟨hS, ?_⟩
                refine q_nil ?_
                refine t_stop ?_
                refine p_does (d_storeW S 0 rfl rfl (bv_one _) sz29 (by simp [length_lsec, length_lshown, length_ldig]) rfl rfl (by rfl)) rfl ?_
                intro _ w S
                exact p_nil (x_then ⟨_, rfl, _, y9, y10, upds_eq ⟨rfl, rfl, rfl, rfl, rfl, rfl, rfl, trivial⟩, S.pk [1, 0, 2, 3, 4] rfl⟩)
              · exact t_none
          · refine t_fork ?_ ?_
            · refine q_does (d_allocA S zv29) rfl ?_
              rintro _ w ⟨y10, rfl, S⟩; have hS := S.pk [3] rfl; refine ⟨hS, ?_⟩
              refine q_nil ?_
              refine t_fork ?_ ?_
              · refine q_does (d_call Try.func35 nm35 rfl rfl (lsec_calls _ s (g : Int) (1 - ((lbit (ldig l) g : Nat) : Int)) hs)) rfl ?_
                rintro _ w ⟨rfl, hB⟩
                have S := S.below hB; have hS := S.pk [3] rfl; refine ⟨hS, ?_⟩
                refine q_nil ?_
                refine t_fork ?_ ?_
                · refine q_does (d_call Try.func36 nm36 rfl rfl (lshown_calls _ _ (length_lsec _ _ _))) rfl ?_
                  rintro _ w ⟨rfl, hB⟩
                  have S := S.below hB; have hS := S.pk [3] rfl; refine ⟨hS, ?_⟩
                  refine q_nil ?_
                  refine t_sq ?_
                  refine q_does (d_allocA S zv29) rfl ?_
                  rintro _ w ⟨y9, rfl, S⟩; have hS := S.pk [4] rfl; refine ⟨hS, ?_⟩
                  refine q_does (d_storeW S 0 rfl rfl (bv_one _) sz29 (by simp [length_lsec, length_lshown, length_ldig]) rfl rfl (by rfl)) rfl ?_
                  intro _ w S; have hS := S.pk [4] rfl; refine ⟨hS, ?_⟩
                  refine q_nil ?_
                  refine t_stop ?_
                  refine p_does (d_storeW S 1 rfl rfl (bv_one _) sz29 (by simp [length_lsec, length_lshown, length_ldig]) rfl rfl (by rfl)) rfl ?_
                  intro _ w S
                  exact p_nil (x_then ⟨_, rfl, _, y9, y10, upds_eq ⟨rfl, rfl, rfl, rfl, rfl, rfl, rfl, trivial⟩, S.pk [0, 1, 2, 3, 4] rfl⟩)
                · refine t_fork ?_ ?_
                  · refine q_does (d_allocA S zv29) rfl ?_
                    rintro _ w ⟨y9, rfl, S⟩; have hS := S.pk [4] rfl; refine ⟨hS, ?_⟩
                    refine q_nil ?_
                    refine t_sq ?_
                    refine q_does (d_call Try.func36 nm36 rfl rfl (lshown_calls _ _ (length_lsec _ _ _))) rfl ?_
                    rintro _ w ⟨rfl, hB⟩
                    have S := S.below hB; have hS := S.pk [4] rfl; refine ⟨hS, ?_⟩
                    refine q_does (d_storeW S 0 rfl rfl (bv_one _) sz29 (by simp [length_lsec, length_lshown, length_ldig]) rfl rfl (by rfl)) rfl ?_
                    intro _ w S; have hS := S.pk [4] rfl; refine ⟨hS, ?_⟩
                    refine q_nil ?_
                    refine t_stop ?_
                    refine p_does (d_storeW S 1 rfl rfl (bv_one _) sz29 (by simp [length_lsec, length_lshown, length_ldig]) rfl rfl (by rfl)) rfl ?_
                    intro _ w S
                    exact p_nil (x_then ⟨_, rfl, _, y9, y10, upds_eq ⟨rfl, rfl, rfl, rfl, rfl, rfl, rfl, trivial⟩, S.pk [0, 1, 2, 3, 4] rfl⟩)
                  · exact t_none
              · refine t_fork ?_ ?_
                · refine q_does (d_allocA S zv29) rfl ?_
                  rintro _ w ⟨y9, rfl, S⟩; have hS := S.pk [4] rfl; refine ⟨hS, ?_⟩
                  refine q_nil ?_
                  refine t_sq ?_
                  refine q_does (d_call Try.func35 nm35 rfl rfl (lsec_calls _ s (g : Int) (1 - ((lbit (ldig l) g : Nat) : Int)) hs)) rfl ?_
                  rintro _ w ⟨rfl, hB⟩
                  have S := S.below hB; have hS := S.pk [4] rfl; refine ⟨hS, ?_⟩
                  refine q_does (d_call Try.func36 nm36 rfl rfl (lshown_calls _ _ (length_lsec _ _ _))) rfl ?_
                  rintro _ w ⟨rfl, hB⟩
                  have S := S.below hB; have hS := S.pk [4] rfl; refine ⟨hS, ?_⟩
                  refine q_does (d_storeW S 0 rfl rfl (bv_one _) sz29 (by simp [length_lsec, length_lshown, length_ldig]) rfl rfl (by rfl)) rfl ?_
                  intro _ w S; have hS := S.pk [4] rfl; refine ⟨hS, ?_⟩
                  refine q_nil ?_
                  refine t_stop ?_
                  refine p_does (d_storeW S 1 rfl rfl (bv_one _) sz29 (by simp [length_lsec, length_lshown, length_ldig]) rfl rfl (by rfl)) rfl ?_
                  intro _ w S
                  exact p_nil (x_then ⟨_, rfl, _, y9, y10, upds_eq ⟨rfl, rfl, rfl, rfl, rfl, rfl, rfl, trivial⟩, S.pk [0, 1, 2, 3, 4] rfl⟩)
                · exact t_none
            · exact t_none
      · refine t_fork ?_ ?_
        · refine q_does (d_allocA S zv29) rfl ?_
          rintro _ w ⟨y9, rfl, S⟩; have hS := S.pk [3] rfl; refine ⟨hS, ?_⟩
          refine q_nil ?_
          refine t_fork ?_ ?_
          · refine q_does (d_call Try.func35 nm35 rfl rfl (lsec_calls _ s (g : Int) ((lbit (ldig l) g : Nat) : Int) hs)) rfl ?_
            rintro _ w ⟨rfl, hB⟩
            have S := S.below hB; have hS := S.pk [3] rfl; refine ⟨hS, ?_⟩
            refine q_nil ?_
            refine t_fork ?_ ?_
            · refine q_does (d_call Try.func35 nm35 rfl rfl (lsec_calls _ s (g : Int) (1 - ((lbit (ldig l) g : Nat) : Int)) hs)) rfl ?_
              rintro _ w ⟨rfl, hB⟩
              have S := S.below hB; have hS := S.pk [3] rfl; refine ⟨hS, ?_⟩
              refine q_nil ?_
              refine t_fork ?_ ?_
              · refine q_does (d_call Try.func36 nm36 rfl rfl (lshown_calls _ _ (length_lsec _ _ _))) rfl ?_
                rintro _ w ⟨rfl, hB⟩
                have S := S.below hB; have hS := S.pk [3] rfl; refine ⟨hS, ?_⟩
                refine q_nil ?_
                refine t_sq ?_
                refine q_does (d_allocA S zv29) rfl ?_
                rintro _ w ⟨y10, rfl, S⟩; have hS := S.pk [4] rfl; refine ⟨hS, ?_⟩
                refine q_does (d_storeW S 1 rfl rfl (bv_one _) sz29 (by simp [length_lsec, length_lshown, length_ldig]) rfl rfl (by rfl)) rfl ?_
                intro _ w S; have hS := S.pk [4] rfl; refine ⟨hS, ?_⟩
                refine q_nil ?_
                refine t_stop ?_
                refine p_does (d_storeW S 0 rfl rfl (bv_one _) sz29 (by simp [length_lsec, length_lshown, length_ldig]) rfl rfl (by rfl)) rfl ?_
                intro _ w S
                exact p_nil (x_then ⟨_, rfl, _, y9, y10, upds_eq ⟨rfl, rfl, rfl, rfl, rfl, rfl, rfl, trivial⟩, S.pk [1, 0, 2, 3, 4] rfl⟩)
              · refine t_fork ?_ ?_
                · refine q_does (d_allocA S zv29) rfl ?_
                  rintro _ w ⟨y10, rfl, S⟩; have hS := S.pk [4] rfl; refine ⟨hS, ?_⟩
                  refine q_nil ?_
                  refine t_sq ?_
                  refine q_does (d_call Try.func36 nm36 rfl rfl (lshown_calls _ _ (length_lsec _ _ _))) rfl ?_
                  rintro _ w ⟨rfl, hB⟩
                  have S := S.below hB; have hS := S.pk [4] rfl; refine ⟨hS, ?_⟩
                  refine q_does (d_storeW S 1 rfl rfl (bv_one _) sz29 (by simp [length_lsec, length_lshown, length_ldig]) rfl rfl (by rfl)) rfl ?_
                  intro _ w S; have hS := S.pk [4] rfl; refine ⟨hS, ?_⟩
                  refine q_nil ?_
                  refine t_stop ?_
                  refine p_does (d_storeW S 0 rfl rfl (bv_one _) sz29 (by simp [length_lsec, length_lshown, length_ldig]) rfl rfl (by rfl)) rfl ?_
                  intro _ w S
                  exact p_nil (x_then ⟨_, rfl, _, y9, y10, upds_eq ⟨rfl, rfl, rfl, rfl, rfl, rfl, rfl, trivial⟩, S.pk [1, 0, 2, 3, 4] rfl⟩)
                · exact t_none
            · refine t_fork ?_ ?_
              · refine q_does (d_allocA S zv29) rfl ?_
                rintro _ w ⟨y10, rfl, S⟩; have hS := S.pk [4] rfl; refine ⟨hS, ?_⟩
                refine q_nil ?_
                refine t_sq ?_
                refine q_does (d_call Try.func35 nm35 rfl rfl (lsec_calls _ s (g : Int) (1 - ((lbit (ldig l) g : Nat) : Int)) hs)) rfl ?_
                rintro _ w ⟨rfl, hB⟩
                have S := S.below hB; have hS := S.pk [4] rfl; refine ⟨hS, ?_⟩
                refine q_does (d_call Try.func36 nm36 rfl rfl (lshown_calls _ _ (length_lsec _ _ _))) rfl ?_
                rintro _ w ⟨rfl, hB⟩
                have S := S.below hB; have hS := S.pk [4] rfl; refine ⟨hS, ?_⟩
                refine q_does (d_storeW S 1 rfl rfl (bv_one _) sz29 (by simp [length_lsec, length_lshown, length_ldig]) rfl rfl (by rfl)) rfl ?_
                intro _ w S; have hS := S.pk [4] rfl; refine ⟨hS, ?_⟩
                refine q_nil ?_
                refine t_stop ?_
                refine p_does (d_storeW S 0 rfl rfl (bv_one _) sz29 (by simp [length_lsec, length_lshown, length_ldig]) rfl rfl (by rfl)) rfl ?_
                intro _ w S
                exact p_nil (x_then ⟨_, rfl, _, y9, y10, upds_eq ⟨rfl, rfl, rfl, rfl, rfl, rfl, rfl, trivial⟩, S.pk [1, 0, 2, 3, 4] rfl⟩)
              · exact t_none
          · refine t_fork ?_ ?_
            · refine q_does (d_allocA S zv29) rfl ?_
              rintro _ w ⟨y10, rfl, S⟩; have hS := S.pk [4] rfl; refine ⟨hS, ?_⟩
              refine q_nil ?_
              refine t_sq ?_
              refine q_does (d_call Try.func35 nm35 rfl rfl (lsec_calls _ s (g : Int) ((lbit (ldig l) g : Nat) : Int) hs)) rfl ?_
              rintro _ w ⟨rfl, hB⟩
              have S := S.below hB; have hS := S.pk [4] rfl; refine ⟨hS, ?_⟩
              refine q_does (d_call Try.func35 nm35 rfl rfl (lsec_calls _ s (g : Int) (1 - ((lbit (ldig l) g : Nat) : Int)) hs)) rfl ?_
              rintro _ w ⟨rfl, hB⟩
              have S := S.below hB; have hS := S.pk [4] rfl; refine ⟨hS, ?_⟩
              refine q_does (d_call Try.func36 nm36 rfl rfl (lshown_calls _ _ (length_lsec _ _ _))) rfl ?_
              rintro _ w ⟨rfl, hB⟩
              have S := S.below hB; have hS := S.pk [4] rfl; refine ⟨hS, ?_⟩
              refine q_does (d_storeW S 1 rfl rfl (bv_one _) sz29 (by simp [length_lsec, length_lshown, length_ldig]) rfl rfl (by rfl)) rfl ?_
              intro _ w S; have hS := S.pk [4] rfl; refine ⟨hS, ?_⟩
              refine q_nil ?_
              refine t_stop ?_
              refine p_does (d_storeW S 0 rfl rfl (bv_one _) sz29 (by simp [length_lsec, length_lshown, length_ldig]) rfl rfl (by rfl)) rfl ?_
              intro _ w S
              exact p_nil (x_then ⟨_, rfl, _, y9, y10, upds_eq ⟨rfl, rfl, rfl, rfl, rfl, rfl, rfl, trivial⟩, S.pk [1, 0, 2, 3, 4] rfl⟩)
            · exact t_none
        · refine t_fork ?_ ?_
          · refine q_does (d_allocA S zv29) rfl ?_
            rintro _ w ⟨y10, rfl, S⟩; have hS := S.pk [3] rfl; refine ⟨hS, ?_⟩
            refine q_nil ?_
            refine t_fork ?_ ?_
            · refine q_does (d_call Try.func35 nm35 rfl rfl (lsec_calls _ s (g : Int) ((lbit (ldig l) g : Nat) : Int) hs)) rfl ?_
              rintro _ w ⟨rfl, hB⟩
              have S := S.below hB; have hS := S.pk [3] rfl; refine ⟨hS, ?_⟩
              refine q_nil ?_
              refine t_fork ?_ ?_
              · refine q_does (d_call Try.func35 nm35 rfl rfl (lsec_calls _ s (g : Int) (1 - ((lbit (ldig l) g : Nat) : Int)) hs)) rfl ?_
                rintro _ w ⟨rfl, hB⟩
                have S := S.below hB; have hS := S.pk [3] rfl; refine ⟨hS, ?_⟩
                refine q_nil ?_
                refine t_fork ?_ ?_
                · refine q_does (d_call Try.func36 nm36 rfl rfl (lshown_calls _ _ (length_lsec _ _ _))) rfl ?_
                  rintro _ w ⟨rfl, hB⟩
                  have S := S.below hB; have hS := S.pk [3] rfl; refine ⟨hS, ?_⟩
                  refine q_nil ?_
                  refine t_sq ?_
                  refine q_does (d_allocA S zv29) rfl ?_
                  rintro _ w ⟨y9, rfl, S⟩; have hS := S.pk [4] rfl; refine ⟨hS, ?_⟩
                  refine q_does (d_storeW S 0 rfl rfl (bv_one _) sz29 (by simp [length_lsec, length_lshown, length_ldig]) rfl rfl (by rfl)) rfl ?_
                  intro _ w S; have hS := S.pk [4] rfl; refine ⟨hS, ?_⟩
                  refine q_nil ?_
                  refine t_stop ?_
                  refine p_does (d_storeW S 1 rfl rfl (bv_one _) sz29 (by simp [length_lsec, length_lshown, length_ldig]) rfl rfl (by rfl)) rfl ?_
                  intro _ w S
                  exact p_nil (x_then ⟨_, rfl, _, y9, y10, upds_eq ⟨rfl, rfl, rfl, rfl, rfl, rfl, rfl, trivial⟩, S.pk [0, 1, 2, 3, 4] rfl⟩)
                · refine t_fork ?_ ?_
                  · refine q_does (d_allocA S zv29) rfl ?_
                    rintro _ w ⟨y9, rfl, S⟩; have hS := S.pk [4] rfl; refine ⟨hS, ?_⟩
                    refine q_nil ?_
                    refine t_sq ?_
                    refine q_does (d_call Try.func36 nm36 rfl rfl (lshown_calls _ _ (length_lsec _ _ _))) rfl ?_
                    rintro _ w ⟨rfl, hB⟩
                    have S := S.below hB; have hS := S.pk [4] rfl; refine ⟨hS, ?_⟩
                    refine q_does (d_storeW S 0 rfl rfl (bv_one _) sz29 (by simp [length_lsec, length_lshown, length_ldig]) rfl rfl (by rfl)) rfl ?_
                    intro _ w S; have hS := S.pk [4] rfl; refine ⟨hS, ?_⟩
                    refine q_nil ?_
                    refine t_stop ?_
                    refine p_does (d_storeW S 1 rfl rfl (bv_one _) sz29 (by simp [length_lsec, length_lshown, length_ldig]) rfl rfl (by rfl)) rfl ?_
                    intro _ w S
                    exact p_nil (x_then ⟨_, rfl, _, y9, y10, upds_eq ⟨rfl, rfl, rfl, rfl, rfl, rfl, rfl, trivial⟩, S.pk [0, 1, 2, 3, 4] rfl⟩)
                  · exact t_none
              · refine t_fork ?_ ?_
                · refine q_does (d_allocA S zv29) rfl ?_
                  rintro _ w ⟨y9, rfl, S⟩; have hS := S.pk [4] rfl; refine ⟨hS, ?_⟩
                  refine q_nil ?_
                  refine t_sq ?_
                  refine q_does (d_call Try.func35 nm35 rfl rfl (lsec_calls _ s (g : Int) (1 - ((lbit (ldig l) g : Nat) : Int)) hs)) rfl ?_
                  rintro _ w ⟨rfl, hB⟩
                  have S := S.below hB; have hS := S.pk [4] rfl; refine ⟨hS, ?_⟩
                  refine q_does (d_call Try.func36 nm36 rfl rfl (lshown_calls _ _ (length_lsec _ _ _))) rfl ?_
                  rintro _ w ⟨rfl, hB⟩
                  have S := S.below hB; have hS := S.pk [4] rfl; refine ⟨hS, ?_⟩
                  refine q_does (d_storeW S 0 rfl rfl (bv_one _) sz29 (by simp [length_lsec, length_lshown, length_ldig]) rfl rfl (by rfl)) rfl ?_
                  intro _ w S; have hS := S.pk [4] rfl; refine ⟨hS, ?_⟩
                  refine q_nil ?_
                  refine t_stop ?_
                  refine p_does (d_storeW S 1 rfl rfl (bv_one _) sz29 (by simp [length_lsec, length_lshown, length_ldig]) rfl rfl (by rfl)) rfl ?_
                  intro _ w S
                  exact p_nil (x_then ⟨_, rfl, _, y9, y10, upds_eq ⟨rfl, rfl, rfl, rfl, rfl, rfl, rfl, trivial⟩, S.pk [0, 1, 2, 3, 4] rfl⟩)
                · exact t_none
            · refine t_fork ?_ ?_
              · refine q_does (d_allocA S zv29) rfl ?_
                rintro _ w ⟨y9, rfl, S⟩; have hS := S.pk [4] rfl; refine ⟨hS, ?_⟩
                refine q_nil ?_
                refine t_sq ?_
                refine q_does (d_call Try.func35 nm35 rfl rfl (lsec_calls _ s (g : Int) ((lbit (ldig l) g : Nat) : Int) hs)) rfl ?_
                rintro _ w ⟨rfl, hB⟩
                have S := S.below hB; have hS := S.pk [4] rfl; refine ⟨hS, ?_⟩
                refine q_does (d_call Try.func35 nm35 rfl rfl (lsec_calls _ s (g : Int) (1 - ((lbit (ldig l) g : Nat) : Int)) hs)) rfl ?_
                rintro _ w ⟨rfl, hB⟩
                have S := S.below hB; have hS := S.pk [4] rfl; refine ⟨hS, ?_⟩
                refine q_does (d_call Try.func36 nm36 rfl rfl (lshown_calls _ _ (length_lsec _ _ _))) rfl ?_
                rintro _ w ⟨rfl, hB⟩
                have S := S.below hB; have hS := S.pk [4] rfl; refine ⟨hS, ?_⟩
                refine q_does (d_storeW S 0 rfl rfl (bv_one _) sz29 (by simp [length_lsec, length_lshown, length_ldig]) rfl rfl (by rfl)) rfl ?_
                intro _ w S; have hS := S.pk [4] rfl; refine ⟨hS, ?_⟩
                refine q_nil ?_
                refine t_stop ?_
                refine p_does (d_storeW S 1 rfl rfl (bv_one _) sz29 (by simp [length_lsec, length_lshown, length_ldig]) rfl rfl (by rfl)) rfl ?_
                intro _ w S
                exact p_nil (x_then ⟨_, rfl, _, y9, y10, upds_eq ⟨rfl, rfl, rfl, rfl, rfl, rfl, rfl, trivial⟩, S.pk [0, 1, 2, 3, 4] rfl⟩)
              · exact t_none
          · exact t_none
    · rintro _ w ⟨u, y9, y10, rfl, S⟩
      refine x_then ?_
      refine s_draw [(true, 0), (true, 1), (true, 3), (false, 2), (false, 4), (true, 5)] (fun w' => True) mixed (by kernel_rfl) (by repeat (first | exact Calm.post _ _ _ | refine Calm.then ?_ _ | refine Calm.inB ?_ _)) ?_
      have S := S.drew
      have hS := trivial
      refine q_val (fun w hS => e_move (v := .slice _ _ _) rfl) rfl hS ?_
      refine q_val (fun w hS => e_sl_arr rfl Try.underlying29 sz5) rfl hS ?_
      refine q_val (fun w hS => e_sl_arr rfl Try.underlying29 sz5) rfl hS ?_
      refine q_does (d_append S 2 rfl rfl Try.underlying33 el5 rfl rfl (S.rdBytes 0 rfl rfl (length_sigS _ _ _)) ((bv_one _)) (by omega) (by unfold maxLen; omega)) rfl ?_
      rintro _ w ⟨k32, c32, rfl, S⟩; have hS := trivial; refine ⟨hS, ?_⟩
      refine q_does (d_append S 2 rfl rfl Try.underlying33 el5 rfl rfl (S.rdBytes 1 rfl rfl (length_sigO _ _ _)) ((bv_one _)) (by omega) (by unfold maxLen; omega)) rfl ?_
      rintro _ w ⟨k34, c34, rfl, S⟩; have hS := trivial; refine ⟨hS, ?_⟩
      refine q_val (fun w hS => e_assign (v := .slice _ _ _) rfl) rfl hS ?_
      refine q_nil (x_in (x_then (s_plain ?_)))
      refine p_val (e_add64 rfl rfl (by omega)) rfl ?_
      refine p_val (e_move (v := .int _ _) rfl) rfl ?_
      refine p_nil ?_
      refine x_round (g + 1) _ rfl ⟨_, _, _, _, upds_eq ⟨rfl, rfl, rfl, rfl, trivial⟩, by omega, by omega, St.asRw (S.pk [2, 3, 4] rfl) (by simp only [← bv_append]; rfl)⟩ (by omega)
  · refine s_exit (x_then_exit (x_then_exit (x_in_same (x_then (s_seq (s_plain ?_))))))
    refine p_val (e_move (v := .slice _ _ _) rfl) rfl ?_
    refine p_val (e_assign (v := .slice _ _ _) rfl) rfl ?_
    refine p_nil (x_then (s_ret ?_))
    exact post1 (v := .slice _ _ _) Try.results29 rfl (by obtain rfl : g = 64 := (by omega); subst hm; exact ⟨k, c, rfl, S.pk [0] rfl⟩)
end Go.Proofs.Ytdhfiamgmokfbaa

/- What a signature leads back to. It proves no statement by itself. -/
set_option linter.unusedSimpArgs false
set_option linter.unusedVariables false
set_option maxRecDepth 100000
set_option maxHeartbeats 2000000
namespace Go.Proofs.Ytdhfiamgmokfbaa
open Go Go.RowKit E
def lzeros : List Nat := List.replicate 32 0
def half (g : List Nat) (i : Nat) : List Nat := (g.drop (64 * i)).take 32
def oth (g : List Nat) (i : Nat) : List Nat := (g.drop (64 * i + 32)).take (64 * i + 64 - (64 * i + 32))
theorem length_half {g : List Nat} {i : Nat} (h : g.length = 4096) (hi : i < 64) : (half g i).length = 32 := by simp [half, h]; omega
theorem length_oth {g : List Nat} {i : Nat} (h : g.length = 4096) (hi : i < 64) : (oth g i).length = 32 := by simp [oth, h]; omega
def backB (d g : List Nat) : Nat → List Nat
  | 0 => []
  | i + 1 => backB d g i ++ (if lbit d i = 0 then lshown (half g i) ++ oth g i else oth g i ++ lshown (half g i))
theorem length_backB {d g : List Nat} (h : g.length = 4096) : ∀ i, i ≤ 64 → (backB d g i).length = 64 * i
  | 0, _ => rfl
  | i + 1, hi => by
    have h1 := length_oth h (show i < 64 by omega)
    rw [backB, List.length_append, length_backB h i (by omega)]
    split <;> rw [List.length_append, length_lshown, h1] <;> omega
@[irreducible] def lback (l g : List Nat) : List Nat := join 13 [backB (ldig l) g 64]
theorem length_lback (l g : List Nat) : (lback l g).length = 32 := by unfold lback; exact length_join _ _
theorem half_cells {g : List Nat} {i n : Nat} (hn : n = 4096) (hi : i < 64) (z : List Value) (hz : z.length = 32) :
    (z.toArray.toList.take 0 ++ (bv (g.drop (64 * i))).take 32 ++ z.toArray.toList.drop (0 + min (n - 64 * i) 32)).toArray = (bv (half g i)).toArray := by
  have e : z.toArray.toList.drop (0 + min (n - 64 * i) 32) = [] := List.drop_of_length_le (by show z.length ≤ _; omega)
  rw [e, List.take_zero, List.nil_append, List.append_nil, bv_take]
  rfl
theorem lback_calls (w0 : World) (A A2 : Option Addr) (n c0 n2 cc : Nat) (l g2 : List Nat) (R : Rd w0 1 A n (bv l)) (hn : n ≤ 1099511620000) (R2 : Rd w0 1 A2 n2 (bv g2)) (hcc : n2 ≤ cc) :
    Ret Try.prog 30 [.slice A n c0, .slice A2 n2 cc] w0 fun v w' => v = (if n2 = 4096 then .tuple #[.agg (bv (lback l g2)).toArray, .int .i64 0] else .tuple #[.agg (bv lzeros).toArray, .int .i64 11]) ∧ Below w0.heap.size w0 w' := by
  have hl2 : g2.length = n2 := by simpa using R2.1
  refine enter Try.func30 rfl Try.ntmps30 (Nat.le_of_ble_eq_true rfl) ?_
  have S := St.init w0
  refine s_seq (s_plain ?_)
  refine p_does (d_allocA S zv29) rfl ?_
  rintro _ w ⟨b1, rfl, S⟩
  refine p_val (e_assign (v := .int _ _) rfl) rfl ?_
  refine p_nil (x_then (s_seq (s_seq (s_plain ?_))))
  refine p_val (e_move (v := .slice _ _ _) rfl) rfl ?_
  refine p_val (e_len rfl Try.underlying33) rfl ?_
  refine p_val (e_neq rfl rfl) rfl ?_
  refine p_nil (x_then ?_)
  refine s_cond rfl (fun hc1 => ?_) (fun hc1 => ?_)
  · refine s_seq (s_plain ?_)
    refine p_val (e_build (cs := zl29) (by kernel_rfl)) rfl ?_
    refine p_does (d_storeW S 0 rfl rfl (bv_one lzeros) sz29 (by rfl) rfl rfl (by rfl)) rfl ?_
    intro _ w S
    refine p_val (e_assign (v := .int _ _) rfl) rfl ?_
    refine p_nil (x_then (s_ret (x_then_ret ?_)))
    exact postC1 Try.results30 S 0 rfl rfl rfl rfl ag29 sz29 (by rfl) ⟨by rw [if_neg (by omega)]; rfl, S.to_below⟩
  · have h4 : g2.length = 4096 := (by omega)
    refine s_skip (x_then (s_seq (s_plain ?_)))
    refine p_val (e_move (v := .slice _ _ _) rfl) rfl ?_
    refine p_does (d_call Try.func33 nm33 rfl rfl (ldig_calls _ A n c0 l (S.rdOld R rfl) hn)) rfl ?_
    rintro _ w ⟨rfl, hB⟩
    have S := S.below hB
    refine p_does (d_allocA S zv29) rfl ?_
    rintro _ w ⟨b2, rfl, S⟩
    refine p_does (d_storeW S 0 rfl rfl (bv_one _) sz29 (by simp [length_ldig]) rfl rfl (by rfl)) rfl ?_
    intro _ w S
    refine p_nil (x_then (s_seq (s_plain ?_)))
    refine p_does (d_make0 S Try.underlying33 el5 4096 rfl rfl (by decide) (by decide)) rfl ?_
    rintro _ w ⟨b3, rfl, S⟩
    refine p_val (e_assign (v := .slice _ _ _) rfl) rfl ?_
    refine p_nil (x_then (s_seq (s_seq (s_plain ?_))))
    refine p_val (e_move (v := .int _ _) rfl) rfl ?_
    refine p_nil (x_then (s_block ?_))
    refine s_loop (α := Nat) (fun g f' w' => ∃ u k c m, f' = upds u [(1, .slice A2 n2 cc), (4, .pointer (some ⟨b1, 0, none⟩)), (6, .pointer (some ⟨b2, 0, none⟩)), (7, .slice (at_ k) m c), (19, .int .i64 (g : Int))] ∧ g ≤ 64 ∧ m = 64 * g ∧ St w0 w' [] [k, some b2, some b1] [Rw 5 1 m c (bv (backB (ldig l) g2 g)), Ex (bv (ldig l)).toArray 29, Ex zl29.toArray 29]) (fun g => 64 - g) (0) (⟨_, _, _, _, upds_eq ⟨rfl, rfl, rfl, rfl, rfl, trivial⟩, by omega, rfl, S⟩) ?_
    rintro g f w ⟨u, k, c, m, rfl, hg, hm, S⟩
    refine s_seq (s_plain ?_)
    refine p_val (e_lss rfl rfl) rfl ?_
    refine p_nil (x_then (s_seq ?_))
    refine s_cond rfl (fun hc2 => ?_) (fun hc2 => ?_)
    · refine s_skip (x_then (s_seq ?_))
      refine s_cut (fun f f' w' => ∃ u k c m, f' = upds u [(1, .slice A2 n2 cc), (4, .pointer (some ⟨b1, 0, none⟩)), (6, .pointer (some ⟨b2, 0, none⟩)), (7, .slice (at_ k) m c), (19, .int .i64 (g : Int))] ∧ m = 64 * (g + 1) ∧ St w0 w' [] [k, some b2, some b1] [Rw 5 1 m c (bv (backB (ldig l) g2 (g + 1))), Ex (bv (ldig l)).toArray 29, Ex zl29.toArray 29]) ?_ ?_
      · refine s_block (s_seq (s_plain ?_))
        refine p_val (e_move (v := .int _ _) rfl) rfl ?_
        refine p_val (e_assign (v := .int _ _) rfl) rfl ?_
        refine p_nil (x_then (s_seq (s_plain ?_)))
        refine p_does (d_allocA S zv28) rfl ?_
        rintro _ w ⟨b7, rfl, S⟩
        refine p_nil (x_then (s_seq ?_))
        refine s_draw [(true, 0), (true, 1), (true, 2), (true, 3), (true, 4), (false, 5)] (fun w' => True) mixed (by kernel_rfl) (by repeat (first | exact Calm.post _ _ _ | refine Calm.then ?_ _ | refine Calm.inB ?_ _)) ?_
        have S := S.drew
        have hS := trivial
        refine q_val (fun w hS => e_sl_arr rfl Try.underlying28 sz5) rfl hS ?_
        refine q_val (fun w hS => e_move (v := .slice _ _ _) rfl) rfl hS ?_
        refine q_val (fun w hS => e_move (v := .int _ _) rfl) rfl hS ?_
        refine q_val (fun w hS => e_mul64 rfl rfl (by omega)) rfl hS ?_
        refine q_val (fun w hS => e_sl_l (64 * g) rfl rfl (by omega) (by omega) Try.underlying33 sz5) rfl hS ?_
        refine q_does (d_copy (off := 0) S 0 rfl rfl Try.underlying33 (by kernel_rfl) rfl rfl (Rd.drop_bv (m := 64 * g) (S.rdOld R2 rfl) (by omega) hcc) ((bv_one _)) (by show 0 + min (n2 - 64 * g) 32 ≤ 32; omega)) rfl ?_
        rintro _ w ⟨rfl, S⟩; have S := S.asEx (half_cells (g := g2) (by omega) (show g < 64 by omega) _ rfl); have hS := trivial; refine ⟨hS, ?_⟩
        refine q_nil (x_then (s_seq (s_plain ?_)))
        refine p_val (e_loadEx rfl ag28 sz28 S 0 rfl rfl (by rw [List.size_toArray, bv_length]; exact length_half h4 (by omega))) rfl ?_
        refine p_does (d_call Try.func36 nm36 rfl rfl (lshown_calls _ _ (length_half h4 (by omega)))) rfl ?_
        rintro _ w ⟨rfl, hB⟩
        have S := S.below hB
        refine p_does (d_allocA S zv29) rfl ?_
        rintro _ w ⟨b8, rfl, S⟩
        refine p_does (d_storeW S 0 rfl rfl (bv_one _) sz29 (by simp [length_lshown]) rfl rfl (by rfl)) rfl ?_
        intro _ w S
        refine p_nil (x_then (s_seq (s_plain ?_)))
        refine p_val (e_move (v := .slice _ _ _) rfl) rfl ?_
        refine p_val (e_move (v := .int _ _) rfl) rfl ?_
        refine p_val (e_mul64 rfl rfl (by omega)) rfl ?_
        refine p_val (e_add64 rfl rfl (by omega)) rfl ?_
        refine p_val (e_move (v := .int _ _) rfl) rfl ?_
        refine p_val (e_mul64 rfl rfl (by omega)) rfl ?_
        refine p_val (e_add64 rfl rfl (by omega)) rfl ?_
        refine p_val (e_sl_lh (64 * g + 32) (64 * g + 64) rfl rfl rfl (by omega) (by omega) (by omega) (by omega) Try.underlying33 sz5) rfl ?_
        refine p_val (e_assign (v := .slice _ _ _) rfl) rfl ?_
        refine p_nil (x_then (s_seq (s_plain ?_)))
        refine p_val (e_loadEx rfl ag29 sz29 S 3 rfl rfl (by simp [length_ldig])) rfl ?_
        refine p_val (e_move (v := .int _ _) rfl) rfl ?_
        refine p_does (d_call Try.func84 nm84 rfl rfl (lbit_calls _ (ldig l) g (length_ldig l) (by omega))) rfl ?_
        rintro _ w ⟨rfl, hB⟩
        have S := S.below hB
        refine p_val (e_eql rfl rfl) rfl ?_
        refine p_nil (x_then ?_)
        refine s_cond rfl (fun hc3 => ?_) (fun hc3 => ?_)
        · refine s_plain ?_
          refine p_val (e_move (v := .slice _ _ _) rfl) rfl ?_
          refine p_val (e_sl_arr rfl Try.underlying29 sz5) rfl ?_
          refine p_does (d_append S 2 rfl rfl Try.underlying33 el5 rfl rfl (S.rdBytes 0 rfl rfl (length_lshown _)) ((bv_one _)) (by omega) (by unfold maxLen; omega)) rfl ?_
          rintro _ w ⟨k44, c44, rfl, S⟩
          refine p_val (e_move (v := .slice _ _ _) rfl) rfl ?_
          refine p_does (d_append S 2 rfl rfl Try.underlying33 el5 rfl rfl (S.rdOld (Rd.take_bv (Rd.drop_bv (m := 64 * g + 32) R2 (by omega) hcc) (by omega)) rfl) ((bv_one _)) (by omega) (by unfold maxLen; omega)) rfl ?_
          rintro _ w ⟨k46, c46, rfl, S⟩
          refine p_val (e_assign (v := .slice _ _ _) rfl) rfl ?_
          refine p_nil (x_in ?_)
          exact x_then ⟨_, rfl, _, _, _, _, upds_eq ⟨rfl, rfl, rfl, rfl, rfl, trivial⟩, by omega, St.asRw (S.pk [2, 3, 4] rfl) (by rw [backB, if_pos (by omega), ← bv_append, ← bv_append, List.append_assoc]; rfl)⟩
        · refine s_draw [(true, 0), (true, 1), (true, 3), (false, 2), (false, 4), (true, 5)] (fun w' => True) mixed (by kernel_rfl) (by repeat (first | exact Calm.post _ _ _ | refine Calm.then ?_ _ | refine Calm.inB ?_ _)) ?_
          have S := S.drew
          have hS := trivial
          refine q_val (fun w hS => e_move (v := .slice _ _ _) rfl) rfl hS ?_
          refine q_val (fun w hS => e_move (v := .slice _ _ _) rfl) rfl hS ?_
          refine q_val (fun w hS => e_sl_arr rfl Try.underlying29 sz5) rfl hS ?_
          refine q_does (d_append S 2 rfl rfl Try.underlying33 el5 rfl rfl (S.rdOld (Rd.take_bv (Rd.drop_bv (m := 64 * g + 32) R2 (by omega) hcc) (by omega)) rfl) ((bv_one _)) (by omega) (by unfold maxLen; omega)) rfl ?_
          rintro _ w ⟨k49, c49, rfl, S⟩; have hS := trivial; refine ⟨hS, ?_⟩
          refine q_does (d_append S 2 rfl rfl Try.underlying33 el5 rfl rfl (S.rdBytes 0 rfl rfl (length_lshown _)) ((bv_one _)) (by omega) (by unfold maxLen; omega)) rfl ?_
          rintro _ w ⟨k51, c51, rfl, S⟩; have hS := trivial; refine ⟨hS, ?_⟩
          refine q_val (fun w hS => e_assign (v := .slice _ _ _) rfl) rfl hS ?_
          refine q_nil (x_in ?_)
          exact x_then ⟨_, rfl, _, _, _, _, upds_eq ⟨rfl, rfl, rfl, rfl, rfl, trivial⟩, by omega, St.asRw (S.pk [2, 3, 4] rfl) (by rw [backB, if_neg (by omega), ← bv_append, ← bv_append, List.append_assoc]; rfl)⟩
      · rintro _ w ⟨u, k, c, m, rfl, hm, S⟩
        refine x_then (s_plain ?_)
        refine p_val (e_add64 rfl rfl (by omega)) rfl ?_
        refine p_val (e_move (v := .int _ _) rfl) rfl ?_
        refine p_nil ?_
        refine x_round (g + 1) _ rfl ⟨_, _, _, _, upds_eq ⟨rfl, rfl, rfl, rfl, rfl, trivial⟩, by omega, hm, S⟩ (by omega)
    · refine s_exit (x_then_exit (x_then_exit (x_in_same (x_then (s_seq (s_plain ?_))))))
      refine p_val (e_move (v := .slice _ _ _) rfl) rfl ?_
      refine p_does (d_lit1 S Try.underlying90 sz33 zv33 rfl (vs := [.slice _ _ _]) rfl rfl rfl (by decide)) rfl ?_
      rintro _ w ⟨b7, rfl, S⟩
      refine p_does (d_call Try.func19 nm19 rfl rfl (join_calls _ 13 _ _ [backB (ldig l) g2 64] (Parts.one (S.rdRw 0 rfl rfl) ((show g = 64 by omega) ▸ S.rdRw 1 rfl rfl)) (by simp [joinB, len4, length_backB h4]) (by simp))) rfl ?_
      rintro _ w ⟨rfl, hB⟩
      have S := S.below hB
      refine p_does (d_storeW S 3 rfl rfl (bv_one _) sz29 (by simp [length_join]) rfl rfl (by rfl)) rfl ?_
      intro _ w S
      refine p_val (e_assign (v := .int _ _) rfl) rfl ?_
      refine p_nil (x_then (s_ret ?_))
      exact postC1 Try.results30 S 3 rfl rfl rfl rfl ag29 sz29 (by simp [length_join]) ⟨by rw [if_pos (by omega)]; unfold lback; rfl, S.to_below⟩
end Go.Proofs.Ytdhfiamgmokfbaa

/- Verifying, and that a signature leads back to its key. It proves no statement by itself. -/
set_option linter.unusedSimpArgs false
set_option linter.unusedVariables false
set_option maxRecDepth 100000
set_option maxHeartbeats 2000000
namespace Go.Proofs.Ytdhfiamgmokfbaa
open Go Go.RowKit E
theorem lback_yes (w0 : World) (A A2 : Option Addr) (n c0 n2 cc : Nat) (l g2 : List Nat) (R : Rd w0 1 A n (bv l)) (hn : n ≤ 1099511620000) (R2 : Rd w0 1 A2 n2 (bv g2)) (hcc : n2 ≤ cc) (h4 : n2 = 4096) :
    Ret Try.prog 30 [.slice A n c0, .slice A2 n2 cc] w0 fun v w' => v = .tuple #[.agg (bv (lback l g2)).toArray, .int .i64 0] ∧ Below w0.heap.size w0 w' :=
  (lback_calls w0 A A2 n c0 n2 cc l g2 R hn R2 hcc).mono fun v w' ⟨hv, hB⟩ => ⟨by rw [hv, if_pos h4], hB⟩
theorem lback_no (w0 : World) (A A2 : Option Addr) (n c0 n2 cc : Nat) (l g2 : List Nat) (R : Rd w0 1 A n (bv l)) (hn : n ≤ 1099511620000) (R2 : Rd w0 1 A2 n2 (bv g2)) (hcc : n2 ≤ cc) (h4 : ¬ n2 = 4096) :
    Ret Try.prog 30 [.slice A n c0, .slice A2 n2 cc] w0 fun v w' => v = .tuple #[.agg (bv lzeros).toArray, .int .i64 11] ∧ Below w0.heap.size w0 w' :=
  (lback_calls w0 A A2 n c0 n2 cc l g2 R hn R2 hcc).mono fun v w' ⟨hv, hB⟩ => ⟨by rw [hv, if_neg h4], hB⟩
theorem half_lsig (s l : List Nat) (i : Nat) (hi : i < 64) : half (lsig s l) i = sigS s (ldig l) i ∧ oth (lsig s l) i = sigO s (ldig l) i := by
  have key : ∀ n, i < n → ∀ t, (sigB s (ldig l) n ++ t).drop (64 * i) = sigS s (ldig l) i ++ sigO s (ldig l) i ++ ((sigB s (ldig l) n).drop (64 * i + 64) ++ t) := by
    intro n
    induction n with
    | zero => intro h; omega
    | succ n ih =>
      intro h t
      rcases Nat.lt_or_ge i n with h' | h'
      · have e1 : sigB s (ldig l) (n + 1) = sigB s (ldig l) n ++ (sigS s (ldig l) n ++ sigO s (ldig l) n) := by rw [sigB, List.append_assoc]
        rw [e1, List.append_assoc, ih h', List.drop_append_of_le_length (by rw [length_sigB]; omega)]
        simp only [List.append_assoc]
      · obtain rfl : i = n := by omega
        have e0 : (sigB s (ldig l) i).length = 64 * i := length_sigB s (ldig l) i
        have e2 : (sigB s (ldig l) (i + 1)).drop (64 * i + 64) = [] := List.drop_of_length_le (by rw [length_sigB]; omega)
        rw [e2, sigB, List.append_assoc, List.append_assoc, ← e0, List.drop_left, List.nil_append, List.append_assoc]
  have h1 := key 64 hi []
  rw [List.append_nil] at h1
  have hS := length_sigS s (ldig l) i
  have hO := length_sigO s (ldig l) i
  refine ⟨?_, ?_⟩
  · show ((sigB s (ldig l) 64).drop (64 * i)).take 32 = _
    rw [h1, List.append_assoc, List.take_append_of_le_length (by omega), List.take_of_length_le (by omega)]
  · show ((sigB s (ldig l) 64).drop (64 * i + 32)).take (64 * i + 64 - (64 * i + 32)) = _
    rw [← List.drop_drop, h1, List.append_assoc, List.drop_append_of_le_length (by omega), List.drop_of_length_le (by omega), List.nil_append,
      List.take_append_of_le_length (by omega), List.take_of_length_le (by omega)]
theorem back_sign (s l : List Nat) : lback l (lsig s l) = lpub s := by
  unfold lback lpub
  have : ∀ i, i ≤ 64 → backB (ldig l) (lsig s l) i = pubB s i := by
    intro i
    induction i with
    | zero => intro _; rfl
    | succ i ih =>
      intro h
      obtain ⟨h1, h2⟩ := half_lsig s l i (by omega)
      have hb := lbit_lt (ldig l) i
      rw [backB, pubB, ih (by omega), h1, h2]
      simp only [pubI, List.nil_append]
      have e0 : ((0 : Nat) : Int) % 2 = 0 := by decide
      have e1 : ((1 : Nat) : Int) % 2 = 1 := by decide
      rw [e0, e1]
      split
      · rename_i h0
        unfold sigS sigO
        rw [h0]
        rfl
      · rename_i h0
        have h1 : lbit (ldig l) i = 1 := by omega
        unfold sigS sigO
        rw [h1]
        rfl
  rw [this 64 (Nat.le_refl _)]
theorem verify_yes (w0 : World) (key : List Nat) (A A2 : Option Addr) (n c0 n2 cc : Nat) (l g2 : List Nat) (hk : key.length = 32) (R : Rd w0 1 A n (bv l)) (hn : n ≤ 1099511620000) (R2 : Rd w0 1 A2 n2 (bv g2)) (hcc : n2 ≤ cc) (h4 : n2 = 4096) :
    Ret Try.prog 32 [.agg (bv key).toArray, .slice A n c0, .slice A2 n2 cc] w0 fun v w' => v = .bool (decide (lback l g2 = key)) ∧ Below w0.heap.size w0 w' := by
  refine enter Try.func32 rfl Try.ntmps32 (Nat.le_of_ble_eq_true rfl) ?_
  have S := St.init w0
  refine s_seq (s_plain ?_)
  refine p_does (d_boxA S rfl) rfl ?_
  rintro _ w ⟨b1, rfl, S⟩
  refine p_val (e_assign (v := .bool _) rfl) rfl ?_
  refine p_nil (x_then (s_seq (s_plain ?_)))
  refine p_val (e_move (v := .slice _ _ _) rfl) rfl ?_
  refine p_val (e_move (v := .slice _ _ _) rfl) rfl ?_
  refine p_does (d_call Try.func30 nm30 rfl rfl (lback_yes _ A A2 n c0 n2 cc l g2 (S.rdOld R rfl) hn (S.rdOld R2 rfl) hcc h4)) rfl ?_
  rintro _ w ⟨rfl, hB⟩
  have S := S.below hB
  refine p_val (e_move (v := .tuple _) rfl) rfl ?_
  refine p_val (e_extract rfl rfl) rfl ?_
  refine p_val (e_extract rfl rfl) rfl ?_
  refine p_does (d_allocA S zv29) rfl ?_
  rintro _ w ⟨b2, rfl, S⟩
  refine p_does (d_storeW S 0 rfl rfl (bv_one _) sz29 (by simp [length_lback]) rfl rfl (by rfl)) rfl ?_
  intro _ w S
  refine p_val (e_assign (v := .int _ _) rfl) rfl ?_
  refine p_nil (x_then (s_seq ?_))
  refine s_cut (fun f f' w' => ∃ (j15 j16 j17 j18 j19 j20 j21 : Value) (b : Bool), f' = updo (updo (updo (updo (updo (updo (updo (updo f (some 15) j15) (some 16) j16) (some 17) j17) (some 18) j18) (some 19) j19) (some 20) j20) (some 21) j21) (some 6) (.bool b) ∧ (b = true ↔ lback l g2 = key) ∧ Below w0.heap.size w0 w') ?_ ?_
  · refine s_plain ?_
    refine p_val (e_move (v := .int _ _) rfl) rfl ?_
    refine p_valB (e_eql rfl rfl) rfl (fun hg2 => ?_) (fun hg2 => ?_)
    · refine p_val (e_move (v := .bool _) rfl) rfl ?_
      refine pg_val rfl rfl rfl rfl rfl (e_loadEx rfl ag29 sz29 S 0 rfl rfl (by simp [length_lback])) ?_
      refine pg_val rfl rfl rfl rfl rfl (e_loadEx rfl ag29 sz29 S 1 rfl rfl (by simp [hk])) ?_
      refine pg_val rfl rfl rfl rfl rfl (EqT.sum eq29 gd29 rfl rfl (length_lback _ _) (hk)) ?_
      refine p_val (e_pick_t rfl rfl) rfl ?_
      refine p_val (e_assign (v := .bool _) rfl) rfl ?_
      exact p_nil (x_then ⟨_, rfl, _, _, _, _, _, _, _, _, rfl, by first | (simp only [decide_eq_true_eq, eq_self, true_iff, iff_true, iff_false, Bool.false_eq_true, false_iff, ge_iff_le, gt_iff_lt]; omega) | simp | omega, S.to_below⟩)
    · exact (absurd rfl hg2)
  · rintro _ w ⟨j15, j16, j17, j18, j19, j20, j21, b901, rfl, hb1, S⟩
    refine x_then (s_ret ?_)
    exact post1 (v := .bool _) Try.results32 rfl ⟨by congr 1; exact (Bool.eq_iff_iff.2 (hb1.trans decide_eq_true_iff.symm)), S⟩
theorem verify_no (w0 : World) (key : List Nat) (A A2 : Option Addr) (n c0 n2 cc : Nat) (l g2 : List Nat) (hk : key.length = 32) (R : Rd w0 1 A n (bv l)) (hn : n ≤ 1099511620000) (R2 : Rd w0 1 A2 n2 (bv g2)) (hcc : n2 ≤ cc) (h4 : ¬ n2 = 4096) :
    Ret Try.prog 32 [.agg (bv key).toArray, .slice A n c0, .slice A2 n2 cc] w0 fun v w' => v = .bool false ∧ Below w0.heap.size w0 w' := by
  refine enter Try.func32 rfl Try.ntmps32 (Nat.le_of_ble_eq_true rfl) ?_
  have S := St.init w0
  refine s_seq (s_plain ?_)
  refine p_does (d_boxA S rfl) rfl ?_
  rintro _ w ⟨b1, rfl, S⟩
  refine p_val (e_assign (v := .bool _) rfl) rfl ?_
  refine p_nil (x_then (s_seq (s_plain ?_)))
  refine p_val (e_move (v := .slice _ _ _) rfl) rfl ?_
  refine p_val (e_move (v := .slice _ _ _) rfl) rfl ?_
  refine p_does (d_call Try.func30 nm30 rfl rfl (lback_no _ A A2 n c0 n2 cc l g2 (S.rdOld R rfl) hn (S.rdOld R2 rfl) hcc h4)) rfl ?_
  rintro _ w ⟨rfl, hB⟩
  have S := S.below hB
  refine p_val (e_move (v := .tuple _) rfl) rfl ?_
  refine p_val (e_extract rfl rfl) rfl ?_
  refine p_val (e_extract rfl rfl) rfl ?_
  refine p_does (d_allocA S zv29) rfl ?_
  rintro _ w ⟨b2, rfl, S⟩
  refine p_does (d_storeW S 0 rfl rfl (bv_one _) sz29 (by rfl) rfl rfl (by rfl)) rfl ?_
  intro _ w S
  refine p_val (e_assign (v := .int _ _) rfl) rfl ?_
  refine p_nil (x_then (s_seq ?_))
  refine s_cut (fun f f' w' => ∃ (j15 j16 j17 j18 j19 j20 j21 : Value) (b : Bool), f' = updo (updo (updo (updo (updo (updo (updo (updo f (some 15) j15) (some 16) j16) (some 17) j17) (some 18) j18) (some 19) j19) (some 20) j20) (some 21) j21) (some 6) (.bool b) ∧ (b = true ↔ False) ∧ Below w0.heap.size w0 w') ?_ ?_
  · refine s_plain ?_
    refine p_val (e_move (v := .int _ _) rfl) rfl ?_
    refine p_valB (e_eql rfl rfl) rfl (fun hg2 => ?_) (fun hg2 => ?_)
    · exact (absurd hg2 (by decide))
    · refine p_val (e_move (v := .bool _) rfl) rfl ?_
      refine p_no rfl rfl rfl rfl rfl ?_
      refine p_no rfl rfl rfl rfl rfl ?_
      refine p_no rfl rfl rfl rfl rfl ?_
      refine p_val (e_pick_f rfl rfl) rfl ?_
      refine p_val (e_assign (v := .bool _) rfl) rfl ?_
      exact p_nil (x_then ⟨_, rfl, _, _, _, _, _, _, _, _, rfl, by first | (simp only [decide_eq_true_eq, eq_self, true_iff, iff_true, iff_false, Bool.false_eq_true, false_iff, ge_iff_le, gt_iff_lt]; omega) | simp | omega, S.to_below⟩)
  · rintro _ w ⟨j15, j16, j17, j18, j19, j20, j21, b901, rfl, hb1, S⟩
    refine x_then (s_ret ?_)
    exact post1 (v := .bool _) Try.results32 rfl ⟨by congr 1; exact (Bool.eq_false_iff.2 fun h => hb1.1 h), S⟩
end Go.Proofs.Ytdhfiamgmokfbaa

/- The public key of the zero seed is not the zero sum: carried out by the kernel, in parts. It proves no statement by itself. -/
set_option linter.unusedSimpArgs false
set_option linter.unusedVariables false
set_option maxRecDepth 100000
namespace Go.Proofs.Ytdhfiamgmokfbaa
open Go Go.RowKit E
def secQ (i b : Nat) : List Nat := sumQ (joinB 11 [lzeros, [i % 256, b % 256]] 2)
def shQ (i b : Nat) : List Nat := sumQ (joinB 12 [secQ i b] 1)
def chQ (c : Nat) : Nat → List Nat
  | 0 => []
  | n + 1 => chQ c n ++ shQ (8 * c + n) 0 ++ shQ (8 * c + n) 1
theorem lsec_Q (i b : Nat) : lsec lzeros (i : Int) (b : Int) = secQ i b := by
  unfold lsec secQ
  rw [join_Q, show ((i : Int) % 256).toNat = i % 256 by omega, show ((b : Int) % 256).toNat = b % 256 by omega]
  rfl
theorem lshown_Q (i b : Nat) : lshown (lsec lzeros (i : Int) (b : Int)) = shQ i b := by
  rw [lsec_Q]
  unfold lshown shQ
  rw [join_Q]
  rfl
theorem pub_ch (c : Nat) : ∀ n, pubB lzeros (8 * c + n) = pubB lzeros (8 * c) ++ chQ c n
  | 0 => by simp [chQ]
  | n + 1 => by
    show pubB lzeros (8 * c + n) ++ pubI lzeros (8 * c + n) 2 = _
    rw [pub_ch c n]
    have e0 : (((0 : Nat) : Int) % 2) = ((0 : Nat) : Int) := by decide
    have e1 : (((1 : Nat) : Int) % 2) = ((1 : Nat) : Int) := by decide
    simp only [pubI, chQ, List.nil_append, e0, e1, lshown_Q, List.append_assoc]
def lit0 : List Nat := [200, 41, 165, 10, 30, 155, 154, 105, 106, 94, 148, 218, 181, 189, 24, 46, 232, 226, 163, 155, 122, 237, 178, 209, 13, 0, 20, 157, 19, 161, 217, 123, 29, 178, 103, 195, 29, 95, 234, 93, 35, 63, 43, 173, 47, 137, 94, 104, 42, 135, 77, 102, 63, 204, 0, 252, 120, 191, 165, 193, 190, 165, 66, 30, 74, 239, 92, 31, 116, 107, 150, 115, 127, 58, 205, 119, 166, 0, 53, 216, 106, 134, 49, 93, 144, 150, 223, 62, 180, 13, 212, 20, 195, 156, 44, 134, 109, 208, 9, 183, 112, 4, 35, 97, 30, 226, 145, 214, 59, 19, 3, 205, 137, 36, 112, 61, 33, 18, 181, 16, 157, 65, 115, 243, 52, 89, 254, 40, 4, 109, 40, 246, 124, 73, 172, 106, 82, 151, 138, 199, 53, 138, 249, 187, 213, 169, 88, 249, 132, 212, 110, 87, 165, 12, 99, 60, 165, 226, 20, 67, 7, 33, 66, 187, 163, 173, 254, 165, 222, 149, 83, 21, 16, 77, 227, 85, 27, 221, 241, 169, 238, 217, 77, 61, 178, 225, 80, 79, 141, 113, 134, 22, 40, 250, 71, 33, 178, 130, 180, 201, 198, 165, 228, 39, 108, 120, 109, 39, 9, 185, 99, 70, 102, 117, 123, 184, 47, 240, 107, 70, 112, 68, 252, 154, 181, 34, 135, 118, 10, 151, 126, 217, 246, 93, 76, 68, 88, 5, 75, 175, 230, 68, 67, 123, 83, 128, 162, 194, 214, 254, 82, 99, 17, 73, 254, 0, 158, 58, 46, 193, 10, 159, 22, 151, 98, 218, 205, 83, 142, 225, 206, 50, 157, 140, 208, 36, 54, 170, 88, 53, 41, 199, 186, 162, 35, 190, 117, 96, 24, 33, 151, 221, 87, 94, 195, 107, 75, 28, 86, 221, 62, 193, 156, 114, 108, 146, 14, 90, 254, 112, 57, 214, 5, 69, 222, 31, 84, 202, 219, 205, 10, 68, 38, 159, 145, 14, 187, 169, 216, 232, 21, 199, 171, 181, 13, 194, 214, 251, 41, 35, 56, 104, 240, 227, 4, 62, 225, 106, 199, 134, 54, 22, 201, 61, 10, 116, 51, 225, 242, 154, 32, 161, 129, 63, 12, 2, 17, 24, 60, 193, 106, 208, 97, 119, 9, 104, 93, 240, 86, 237, 220, 252, 144, 37, 42, 179, 125, 147, 216, 215, 28, 224, 207, 255, 38, 109, 4, 219, 203, 237, 2, 27, 128, 20, 118, 5, 173, 117, 130, 34, 95, 226, 246, 116, 23, 106, 228, 114, 128, 80, 243, 140, 244, 190, 100, 166, 60, 207, 198, 161, 145, 36, 190, 226, 24, 26, 126, 198, 182, 73, 173, 170, 160, 167, 141, 214, 32, 75, 16, 12, 112, 72, 186, 160, 27, 172, 12, 95, 239, 61, 60, 220, 38, 24, 18, 72, 123, 30, 238, 155, 54, 166, 128, 184, 5, 25, 36, 216, 154, 91, 130, 246, 134, 126, 85, 140, 188, 126, 192, 183, 36, 51, 152, 7, 229, 168, 8, 61, 142, 181, 216, 182, 255, 68, 139, 239, 179, 167, 245, 191, 153, 65]
theorem ch0 : chQ 0 8 = lit0 := eq_of_beq (by kernel_rfl)
def lit1 : List Nat := [242, 142, 215, 247, 128, 157, 188, 232, 69, 209, 255, 114, 37, 94, 132, 72, 134, 210, 79, 12, 90, 188, 85, 131, 173, 92, 164, 191, 130, 171, 66, 22, 41, 190, 57, 47, 26, 139, 53, 188, 110, 249, 93, 40, 102, 194, 76, 62, 187, 237, 20, 150, 180, 208, 170, 118, 138, 226, 46, 142, 119, 233, 111, 132, 246, 154, 22, 237, 140, 33, 235, 193, 65, 163, 165, 80, 224, 192, 247, 116, 247, 21, 190, 232, 27, 56, 68, 5, 104, 28, 57, 253, 131, 172, 111, 78, 130, 101, 48, 96, 140, 48, 171, 37, 118, 150, 85, 155, 190, 227, 115, 56, 34, 213, 87, 218, 39, 102, 22, 154, 48, 117, 124, 24, 152, 219, 193, 220, 34, 12, 17, 94, 242, 108, 134, 133, 164, 167, 151, 201, 135, 133, 124, 225, 244, 105, 130, 163, 73, 1, 186, 4, 74, 162, 23, 53, 70, 28, 179, 98, 6, 163, 168, 248, 129, 200, 246, 186, 77, 46, 29, 58, 187, 115, 192, 28, 245, 190, 47, 142, 36, 226, 204, 111, 163, 123, 1, 172, 254, 250, 61, 67, 246, 228, 254, 39, 189, 67, 52, 97, 89, 164, 17, 180, 118, 34, 218, 217, 73, 95, 160, 87, 62, 145, 99, 119, 93, 0, 2, 58, 127, 1, 161, 56, 58, 42, 125, 198, 169, 90, 4, 157, 159, 49, 136, 66, 70, 32, 196, 200, 214, 232, 209, 47, 202, 187, 63, 174, 139, 12, 69, 224, 213, 186, 81, 207, 146, 110, 251, 100, 184, 33, 221, 61, 120, 78, 154, 23, 79, 177, 86, 232, 81, 225, 208, 158, 56, 148, 103, 177, 80, 227, 124, 87, 209, 109, 130, 114, 175, 68, 98, 244, 207, 90, 103, 252, 98, 129, 167, 194, 95, 160, 209, 167, 193, 97, 75, 180, 20, 86, 157, 222, 240, 95, 78, 233, 69, 2, 152, 89, 109, 162, 149, 111, 45, 7, 174, 118, 237, 161, 74, 163, 80, 245, 188, 202, 191, 237, 99, 110, 81, 164, 205, 64, 99, 118, 202, 37, 158, 101, 215, 175, 33, 82, 106, 196, 46, 1, 121, 7, 201, 24, 21, 235, 206, 251, 238, 121, 177, 213, 197, 3, 219, 80, 217, 99, 241, 225, 229, 120, 156, 14, 112, 176, 109, 21, 57, 58, 212, 252, 139, 8, 198, 115, 87, 77, 28, 98, 17, 114, 206, 0, 53, 182, 148, 39, 203, 122, 91, 219, 125, 30, 39, 172, 181, 154, 58, 58, 11, 130, 112, 46, 87, 192, 143, 200, 1, 163, 34, 192, 252, 247, 158, 152, 87, 132, 106, 141, 174, 90, 2, 182, 185, 29, 103, 251, 204, 243, 169, 54, 156, 214, 144, 180, 152, 232, 156, 146, 51, 79, 8, 38, 213, 35, 252, 131, 236, 105, 165, 176, 230, 63, 187, 159, 51, 68, 203, 48, 149, 167, 93, 181, 194, 137, 92, 43, 172, 120, 183, 147, 169, 57, 235, 221, 204, 183, 159, 51, 5, 71, 203, 195, 194, 9, 75, 103, 109, 34, 245, 115, 176, 60]
theorem ch1 : chQ 1 8 = lit1 := eq_of_beq (by kernel_rfl)
def lit2 : List Nat := [210, 231, 21, 139, 50, 51, 250, 255, 221, 65, 255, 210, 70, 155, 237, 198, 202, 92, 70, 87, 160, 131, 3, 34, 242, 181, 48, 98, 126, 13, 123, 26, 4, 182, 8, 138, 59, 183, 130, 146, 162, 63, 16, 121, 196, 193, 55, 208, 92, 178, 176, 204, 91, 112, 30, 99, 157, 203, 127, 83, 22, 229, 148, 29, 188, 74, 114, 205, 215, 120, 89, 189, 71, 69, 175, 141, 13, 202, 58, 6, 110, 202, 145, 142, 199, 206, 135, 46, 104, 220, 209, 220, 26, 165, 153, 63, 249, 0, 114, 58, 252, 39, 108, 44, 113, 236, 170, 140, 113, 110, 65, 97, 83, 220, 132, 71, 132, 54, 11, 134, 19, 157, 10, 250, 135, 71, 157, 176, 146, 24, 44, 225, 74, 179, 206, 131, 175, 113, 65, 147, 157, 119, 205, 32, 227, 151, 112, 10, 244, 44, 214, 209, 146, 110, 242, 173, 232, 243, 60, 106, 118, 218, 46, 8, 177, 82, 167, 19, 233, 131, 127, 67, 17, 155, 60, 3, 182, 198, 122, 222, 29, 152, 20, 8, 89, 51, 193, 206, 214, 39, 118, 219, 86, 51, 136, 244, 136, 175, 239, 185, 83, 132, 25, 175, 78, 189, 205, 218, 128, 143, 2, 252, 32, 136, 193, 233, 45, 139, 11, 17, 149, 10, 202, 132, 42, 170, 103, 121, 5, 159, 85, 75, 208, 140, 8, 246, 25, 107, 88, 128, 151, 9, 253, 57, 254, 55, 145, 241, 43, 189, 223, 32, 181, 138, 247, 201, 237, 143, 6, 36, 66, 99, 130, 28, 189, 29, 40, 19, 10, 133, 221, 197, 172, 176, 12, 77, 64, 72, 41, 174, 46, 105, 76, 194, 164, 30, 215, 164, 98, 30, 125, 63, 42, 64, 133, 103, 181, 206, 45, 173, 203, 188, 45, 120, 200, 116, 106, 18, 15, 182, 146, 39, 15, 12, 78, 110, 73, 115, 110, 149, 221, 199, 87, 255, 115, 200, 48, 234, 32, 74, 84, 146, 63, 142, 175, 244, 81, 73, 180, 187, 11, 144, 114, 181, 126, 241, 233, 226, 137, 151, 64, 232, 47, 31, 216, 210, 34, 35, 17, 125, 217, 229, 164, 47, 6, 164, 253, 157, 0, 246, 62, 190, 187, 252, 250, 19, 89, 11, 184, 87, 55, 30, 94, 169, 234, 181, 7, 228, 62, 88, 239, 86, 104, 236, 225, 146, 18, 254, 45, 21, 156, 84, 175, 130, 9, 87, 19, 77, 218, 7, 63, 75, 213, 72, 170, 34, 110, 139, 104, 202, 70, 2, 97, 181, 126, 183, 81, 119, 88, 185, 31, 0, 250, 241, 163, 35, 170, 158, 227, 95, 133, 216, 95, 135, 60, 13, 226, 246, 47, 25, 103, 17, 42, 46, 103, 229, 12, 147, 170, 66, 123, 188, 7, 17, 26, 51, 225, 72, 178, 66, 238, 180, 49, 106, 148, 126, 142, 213, 238, 102, 74, 78, 30, 164, 186, 215, 233, 217, 227, 117, 171, 171, 93, 61, 95, 71, 118, 65, 14, 127, 246, 92, 161, 61, 47, 97, 131, 209, 18, 40, 133, 187]
theorem ch2 : chQ 2 8 = lit2 := eq_of_beq (by kernel_rfl)
def lit3 : List Nat := [139, 216, 252, 114, 18, 237, 82, 23, 247, 233, 90, 2, 87, 105, 186, 84, 20, 82, 231, 23, 210, 1, 154, 252, 115, 92, 150, 195, 254, 196, 11, 223, 12, 168, 172, 24, 250, 150, 56, 120, 67, 167, 154, 221, 213, 157, 103, 55, 82, 106, 98, 31, 108, 193, 153, 181, 238, 8, 101, 234, 142, 170, 81, 8, 33, 129, 152, 111, 25, 32, 152, 195, 23, 41, 13, 206, 43, 2, 136, 154, 145, 207, 61, 170, 78, 248, 18, 114, 206, 135, 28, 206, 176, 4, 2, 113, 138, 51, 213, 117, 197, 211, 120, 82, 51, 227, 65, 193, 188, 183, 202, 70, 187, 175, 100, 96, 6, 106, 151, 151, 162, 225, 26, 0, 31, 107, 206, 143, 228, 194, 179, 255, 80, 247, 21, 194, 161, 80, 161, 168, 138, 28, 15, 220, 72, 117, 113, 98, 214, 91, 79, 216, 127, 127, 118, 192, 175, 72, 160, 228, 195, 153, 5, 93, 20, 23, 15, 216, 88, 246, 1, 30, 33, 155, 21, 186, 10, 165, 48, 174, 14, 77, 110, 174, 155, 72, 243, 228, 208, 128, 56, 30, 1, 138, 125, 214, 82, 132, 56, 255, 229, 239, 78, 51, 178, 18, 224, 123, 98, 78, 102, 79, 66, 170, 56, 65, 218, 105, 169, 149, 143, 153, 40, 140, 196, 53, 225, 14, 53, 230, 240, 65, 52, 240, 169, 66, 131, 255, 205, 132, 128, 116, 183, 13, 85, 45, 237, 156, 158, 181, 159, 127, 95, 92, 230, 29, 21, 138, 173, 44, 176, 43, 165, 184, 13, 153, 57, 10, 134, 136, 214, 191, 100, 189, 253, 53, 116, 219, 28, 98, 169, 87, 180, 47, 191, 237, 224, 68, 33, 17, 22, 67, 24, 3, 255, 9, 199, 242, 0, 193, 112, 168, 0, 232, 16, 184, 7, 23, 224, 5, 198, 114, 151, 139, 12, 234, 221, 120, 107, 1, 122, 100, 146, 232, 42, 190, 114, 45, 75, 95, 29, 155, 35, 234, 140, 159, 221, 93, 219, 28, 38, 150, 84, 17, 119, 97, 136, 55, 99, 120, 44, 177, 73, 191, 238, 154, 121, 199, 156, 114, 207, 81, 35, 210, 23, 178, 172, 79, 204, 5, 10, 186, 26, 248, 218, 204, 196, 59, 2, 64, 40, 159, 72, 241, 82, 99, 60, 218, 37, 20, 241, 84, 117, 118, 116, 3, 33, 190, 251, 203, 3, 20, 182, 122, 19, 189, 100, 80, 55, 98, 134, 73, 173, 40, 1, 105, 131, 205, 243, 206, 141, 189, 125, 3, 91, 210, 241, 154, 243, 22, 205, 172, 246, 209, 89, 233, 24, 254, 145, 148, 127, 168, 118, 38, 226, 63, 255, 38, 44, 109, 58, 196, 167, 145, 127, 231, 27, 112, 195, 170, 254, 135, 231, 78, 233, 34, 3, 226, 47, 77, 202, 186, 245, 242, 220, 156, 170, 200, 144, 68, 128, 65, 80, 81, 102, 81, 141, 130, 54, 53, 49, 159, 145, 152, 42, 41, 34, 88, 239, 215, 108, 112, 209, 118, 58, 66, 45, 181, 88, 250, 194, 188]
theorem ch3 : chQ 3 8 = lit3 := eq_of_beq (by kernel_rfl)
def lit4 : List Nat := [104, 23, 39, 159, 219, 17, 6, 224, 49, 39, 228, 55, 18, 192, 108, 116, 105, 160, 166, 73, 55, 165, 93, 49, 106, 9, 10, 102, 147, 79, 167, 206, 51, 6, 89, 242, 41, 230, 21, 125, 191, 130, 49, 118, 213, 164, 201, 170, 23, 108, 144, 99, 144, 246, 175, 31, 251, 146, 226, 236, 25, 94, 112, 133, 48, 109, 196, 83, 253, 239, 39, 100, 87, 83, 187, 67, 101, 38, 215, 33, 213, 99, 157, 47, 193, 145, 96, 146, 191, 110, 5, 235, 183, 213, 119, 193, 52, 101, 105, 180, 90, 68, 134, 189, 156, 122, 27, 236, 191, 20, 111, 243, 128, 51, 205, 35, 214, 74, 237, 22, 85, 224, 18, 37, 195, 105, 125, 238, 152, 82, 123, 191, 33, 226, 126, 255, 162, 220, 73, 14, 248, 100, 50, 125, 208, 64, 186, 152, 132, 131, 66, 187, 159, 237, 61, 183, 95, 231, 185, 222, 224, 151, 157, 0, 221, 20, 154, 10, 106, 187, 136, 139, 250, 209, 156, 187, 50, 164, 100, 126, 215, 96, 79, 23, 239, 82, 62, 1, 38, 220, 255, 180, 90, 95, 229, 161, 198, 160, 145, 246, 49, 109, 253, 12, 212, 209, 7, 202, 240, 20, 157, 251, 97, 195, 32, 98, 116, 72, 17, 140, 12, 180, 164, 196, 215, 167, 148, 98, 8, 162, 43, 222, 220, 125, 98, 188, 159, 51, 209, 131, 234, 147, 75, 1, 231, 119, 52, 33, 132, 50, 120, 20, 44, 115, 48, 105, 93, 87, 164, 246, 32, 167, 160, 149, 10, 141, 12, 251, 29, 104, 234, 91, 178, 153, 165, 2, 124, 42, 168, 242, 32, 117, 248, 90, 64, 77, 190, 202, 94, 74, 116, 196, 182, 83, 119, 199, 4, 44, 92, 62, 99, 239, 5, 73, 134, 112, 125, 159, 179, 202, 63, 145, 22, 42, 187, 82, 191, 250, 122, 83, 141, 56, 126, 254, 35, 196, 105, 64, 102, 183, 190, 176, 243, 120, 96, 188, 199, 206, 55, 57, 130, 170, 53, 254, 149, 186, 60, 42, 21, 143, 106, 233, 48, 107, 201, 125, 88, 22, 84, 186, 134, 200, 44, 134, 75, 87, 76, 128, 77, 242, 162, 120, 39, 181, 103, 70, 173, 29, 247, 19, 127, 254, 87, 203, 228, 104, 119, 27, 84, 173, 36, 229, 80, 189, 208, 28, 96, 217, 74, 32, 43, 100, 60, 116, 81, 184, 242, 115, 186, 207, 194, 66, 11, 36, 2, 190, 96, 173, 18, 0, 97, 22, 98, 151, 43, 73, 44, 34, 191, 37, 2, 62, 236, 199, 30, 113, 156, 176, 50, 130, 135, 150, 120, 73, 28, 165, 162, 119, 12, 242, 233, 131, 234, 46, 174, 136, 7, 179, 154, 56, 149, 125, 243, 197, 236, 159, 110, 12, 17, 4, 75, 250, 170, 57, 184, 2, 26, 98, 70, 244, 219, 72, 254, 24, 152, 56, 216, 71, 221, 189, 243, 53, 78, 26, 219, 22, 3, 233, 106, 60, 183, 250, 219, 66, 117, 96, 92, 238, 166, 208, 14, 133]
theorem ch4 : chQ 4 8 = lit4 := eq_of_beq (by kernel_rfl)
def lit5 : List Nat := [65, 34, 23, 82, 11, 88, 123, 246, 63, 237, 12, 41, 116, 30, 75, 175, 238, 229, 93, 112, 166, 224, 220, 254, 98, 23, 80, 219, 53, 50, 194, 249, 0, 116, 232, 178, 86, 134, 87, 44, 7, 15, 214, 35, 164, 77, 172, 33, 95, 228, 252, 175, 87, 204, 56, 125, 66, 87, 144, 206, 95, 33, 109, 159, 15, 76, 13, 98, 251, 21, 9, 182, 149, 22, 177, 217, 65, 133, 92, 140, 139, 158, 59, 73, 106, 193, 19, 215, 125, 196, 52, 8, 245, 4, 40, 180, 100, 226, 157, 16, 24, 66, 126, 158, 17, 16, 21, 64, 102, 158, 120, 123, 123, 173, 214, 98, 129, 98, 180, 11, 204, 72, 250, 195, 228, 53, 229, 233, 235, 233, 150, 93, 217, 245, 136, 88, 57, 212, 128, 193, 236, 198, 83, 28, 70, 249, 38, 44, 25, 108, 21, 71, 152, 122, 202, 207, 141, 104, 233, 143, 112, 190, 18, 237, 252, 225, 91, 151, 9, 158, 201, 42, 235, 62, 77, 83, 37, 26, 168, 74, 142, 188, 150, 12, 49, 247, 40, 246, 178, 4, 216, 102, 29, 183, 104, 192, 239, 60, 253, 146, 59, 152, 224, 50, 242, 97, 226, 68, 18, 166, 30, 168, 159, 1, 219, 195, 136, 113, 147, 99, 153, 160, 148, 148, 116, 181, 187, 243, 210, 38, 43, 159, 83, 45, 95, 243, 83, 102, 87, 9, 62, 226, 129, 162, 161, 7, 38, 189, 154, 244, 182, 152, 58, 31, 241, 10, 16, 88, 77, 255, 179, 222, 203, 132, 231, 184, 231, 120, 174, 26, 113, 106, 115, 87, 44, 240, 69, 74, 67, 72, 8, 233, 145, 44, 95, 83, 133, 92, 165, 22, 49, 151, 128, 165, 197, 177, 34, 203, 89, 147, 143, 173, 6, 190, 248, 137, 96, 223, 143, 230, 205, 199, 231, 197, 88, 139, 112, 225, 65, 178, 10, 76, 246, 10, 84, 68, 103, 87, 153, 197, 144, 136, 11, 161, 154, 250, 128, 8, 79, 190, 41, 126, 214, 48, 200, 202, 193, 115, 28, 62, 22, 83, 91, 173, 75, 107, 7, 208, 87, 128, 2, 246, 113, 45, 51, 32, 149, 246, 193, 216, 118, 178, 178, 250, 35, 63, 65, 147, 106, 216, 43, 118, 210, 173, 33, 188, 163, 129, 83, 212, 150, 247, 15, 250, 7, 92, 31, 230, 102, 251, 40, 145, 154, 137, 171, 219, 72, 195, 117, 27, 105, 238, 121, 59, 137, 160, 39, 58, 12, 229, 249, 64, 201, 15, 203, 124, 132, 233, 194, 141, 245, 103, 137, 120, 243, 86, 17, 44, 98, 64, 142, 106, 217, 155, 121, 247, 250, 203, 14, 218, 143, 237, 111, 144, 209, 255, 118, 228, 20, 87, 161, 197, 40, 12, 104, 148, 186, 74, 1, 116, 219, 91, 26, 152, 68, 45, 72, 155, 112, 50, 99, 130, 67, 63, 99, 136, 60, 198, 208, 200, 67, 76, 22, 69, 168, 51, 245, 195, 64, 148, 119, 171, 189, 155, 223, 8, 0, 226, 162, 54, 65, 184]
theorem ch5 : chQ 5 8 = lit5 := eq_of_beq (by kernel_rfl)
def lit6 : List Nat := [180, 67, 71, 0, 73, 192, 33, 18, 23, 218, 26, 123, 210, 114, 162, 30, 42, 14, 133, 162, 2, 106, 224, 125, 211, 72, 71, 167, 254, 247, 141, 162, 111, 192, 252, 101, 146, 26, 111, 241, 3, 80, 171, 98, 129, 109, 191, 201, 159, 15, 254, 27, 68, 32, 8, 205, 170, 29, 156, 180, 59, 144, 148, 207, 14, 205, 239, 98, 253, 83, 17, 128, 188, 78, 187, 0, 251, 120, 214, 229, 131, 135, 209, 78, 116, 167, 137, 148, 229, 152, 19, 248, 212, 240, 53, 250, 8, 75, 153, 33, 22, 21, 247, 185, 214, 209, 214, 219, 163, 98, 117, 136, 57, 215, 205, 247, 80, 252, 201, 68, 166, 4, 191, 29, 55, 38, 179, 207, 48, 96, 165, 226, 109, 55, 55, 128, 49, 228, 193, 52, 131, 211, 186, 219, 81, 109, 199, 225, 27, 178, 236, 79, 112, 57, 166, 183, 142, 23, 223, 250, 21, 148, 141, 153, 214, 198, 206, 206, 200, 119, 144, 180, 213, 3, 150, 253, 198, 227, 114, 41, 196, 121, 194, 53, 171, 245, 149, 155, 82, 167, 217, 68, 49, 113, 100, 64, 249, 23, 193, 246, 55, 142, 72, 68, 219, 61, 225, 138, 115, 91, 58, 103, 101, 84, 156, 238, 49, 86, 253, 76, 4, 38, 62, 143, 135, 111, 9, 208, 136, 61, 50, 33, 25, 184, 226, 115, 101, 70, 125, 92, 159, 83, 19, 243, 206, 4, 40, 147, 12, 203, 128, 88, 26, 226, 174, 149, 148, 223, 109, 67, 6, 236, 88, 63, 17, 141, 159, 30, 187, 80, 238, 203, 42, 102, 177, 156, 246, 251, 196, 61, 135, 118, 181, 180, 88, 116, 0, 204, 102, 31, 28, 50, 48, 86, 227, 187, 136, 168, 182, 179, 206, 63, 131, 217, 49, 1, 251, 72, 171, 254, 19, 244, 66, 89, 68, 35, 227, 34, 88, 93, 140, 86, 16, 110, 241, 117, 152, 125, 32, 68, 168, 188, 147, 201, 23, 51, 234, 67, 47, 1, 45, 183, 179, 250, 71, 4, 129, 186, 217, 88, 253, 203, 38, 217, 93, 30, 208, 59, 192, 192, 197, 254, 78, 205, 115, 136, 56, 42, 62, 198, 100, 190, 212, 72, 229, 197, 96, 237, 100, 59, 184, 167, 81, 121, 167, 137, 84, 208, 139, 191, 228, 36, 4, 37, 36, 165, 110, 203, 130, 14, 237, 145, 134, 127, 87, 122, 216, 145, 198, 17, 237, 247, 58, 96, 68, 130, 209, 47, 23, 98, 62, 39, 181, 167, 127, 204, 121, 245, 139, 125, 222, 124, 60, 240, 189, 188, 115, 98, 159, 154, 211, 193, 105, 114, 18, 195, 199, 250, 77, 166, 79, 43, 210, 96, 216, 35, 231, 110, 34, 8, 152, 156, 158, 77, 222, 111, 97, 68, 7, 100, 235, 70, 129, 22, 52, 246, 209, 178, 173, 22, 205, 123, 12, 235, 130, 211, 216, 82, 51, 146, 66, 59, 79, 89, 100, 135, 103, 92, 240, 117, 60, 69, 225, 13, 252, 97, 149, 170, 64, 71, 21, 110]
theorem ch6 : chQ 6 8 = lit6 := eq_of_beq (by kernel_rfl)
def lit7 : List Nat := [244, 254, 191, 202, 1, 236, 110, 149, 174, 99, 42, 36, 133, 126, 213, 43, 137, 72, 211, 172, 170, 66, 139, 18, 115, 186, 112, 217, 83, 250, 225, 31, 15, 190, 127, 112, 210, 210, 197, 100, 53, 3, 130, 141, 125, 171, 60, 206, 238, 161, 162, 251, 216, 196, 63, 216, 229, 189, 119, 229, 196, 161, 169, 51, 85, 23, 129, 200, 40, 173, 91, 147, 33, 176, 110, 130, 7, 3, 201, 230, 4, 41, 80, 96, 0, 169, 243, 194, 99, 84, 169, 146, 186, 89, 180, 39, 49, 27, 158, 33, 131, 5, 134, 236, 85, 210, 193, 69, 215, 177, 63, 9, 20, 65, 152, 197, 36, 14, 4, 120, 185, 55, 157, 175, 4, 119, 248, 15, 148, 152, 242, 249, 222, 96, 132, 70, 76, 44, 168, 249, 126, 121, 214, 134, 109, 142, 41, 144, 196, 32, 221, 101, 65, 132, 192, 17, 34, 120, 134, 2, 95, 228, 249, 78, 116, 71, 224, 139, 65, 60, 254, 167, 201, 151, 18, 96, 80, 158, 158, 175, 110, 163, 22, 11, 8, 156, 6, 242, 200, 159, 221, 70, 85, 85, 200, 43, 147, 242, 5, 104, 91, 2, 110, 159, 244, 220, 100, 58, 235, 42, 153, 166, 146, 64, 251, 246, 97, 10, 250, 199, 196, 133, 44, 240, 17, 15, 13, 25, 182, 202, 108, 245, 66, 89, 139, 139, 8, 40, 10, 234, 115, 16, 227, 218, 75, 80, 238, 42, 30, 236, 44, 7, 20, 118, 28, 176, 13, 149, 124, 228, 179, 157, 26, 161, 12, 95, 188, 178, 95, 125, 119, 63, 180, 124, 201, 191, 231, 226, 11, 41, 187, 62, 204, 130, 207, 78, 121, 161, 20, 166, 217, 252, 86, 230, 217, 186, 218, 58, 8, 200, 110, 5, 12, 145, 18, 139, 247, 178, 152, 167, 22, 211, 77, 95, 31, 146, 243, 180, 104, 77, 116, 76, 96, 72, 130, 222, 241, 79, 139, 254, 251, 165, 183, 141, 84, 44, 83, 250, 100, 1, 91, 179, 92, 114, 126, 228, 252, 63, 92, 82, 73, 19, 107, 39, 251, 41, 13, 9, 177, 168, 53, 141, 54, 10, 172, 62, 32, 212, 112, 149, 130, 155, 142, 192, 135, 219, 39, 3, 3, 194, 93, 180, 80, 193, 67, 130, 44, 185, 211, 36, 142, 102, 17, 103, 85, 15, 94, 75, 217, 123, 114, 233, 209, 78, 110, 249, 85, 235, 13, 212, 162, 9, 7, 13, 153, 166, 253, 115, 79, 242, 234, 88, 43, 20, 42, 240, 248, 209, 77, 93, 22, 251, 30, 222, 182, 109, 100, 109, 183, 6, 77, 180, 174, 212, 6, 61, 203, 36, 122, 163, 102, 199, 98, 35, 214, 146, 106, 11, 151, 116, 254, 214, 69, 210, 75, 208, 38, 215, 122, 252, 121, 125, 100, 251, 127, 145, 81, 231, 122, 159, 149, 2, 255, 177, 24, 138, 108, 213, 19, 8, 186, 118, 162, 201, 242, 220, 239, 66, 249, 191, 119, 67, 178, 3, 27, 137, 213, 210, 209, 26, 200, 157]
theorem ch7 : chQ 7 8 = lit7 := eq_of_beq (by kernel_rfl)
theorem pub_lit : pubB lzeros 64 = lit0 ++ lit1 ++ lit2 ++ lit3 ++ lit4 ++ lit5 ++ lit6 ++ lit7 := by
  rw [show pubB lzeros (64) = pubB lzeros (8 * 7 + 8) from rfl, pub_ch 7 8, ch7, show pubB lzeros (8 * 7) = pubB lzeros 56 from rfl]
  rw [show pubB lzeros (56) = pubB lzeros (8 * 6 + 8) from rfl, pub_ch 6 8, ch6, show pubB lzeros (8 * 6) = pubB lzeros 48 from rfl]
  rw [show pubB lzeros (48) = pubB lzeros (8 * 5 + 8) from rfl, pub_ch 5 8, ch5, show pubB lzeros (8 * 5) = pubB lzeros 40 from rfl]
  rw [show pubB lzeros (40) = pubB lzeros (8 * 4 + 8) from rfl, pub_ch 4 8, ch4, show pubB lzeros (8 * 4) = pubB lzeros 32 from rfl]
  rw [show pubB lzeros (32) = pubB lzeros (8 * 3 + 8) from rfl, pub_ch 3 8, ch3, show pubB lzeros (8 * 3) = pubB lzeros 24 from rfl]
  rw [show pubB lzeros (24) = pubB lzeros (8 * 2 + 8) from rfl, pub_ch 2 8, ch2, show pubB lzeros (8 * 2) = pubB lzeros 16 from rfl]
  rw [show pubB lzeros (16) = pubB lzeros (8 * 1 + 8) from rfl, pub_ch 1 8, ch1, show pubB lzeros (8 * 1) = pubB lzeros 8 from rfl]
  rw [show pubB lzeros (8) = pubB lzeros (8 * 0 + 8) from rfl, pub_ch 0 8, ch0, show pubB lzeros (8 * 0) = pubB lzeros 0 from rfl]
  rfl
theorem key_ev : ((sumQ (joinB 13 [lit0 ++ lit1 ++ lit2 ++ lit3 ++ lit4 ++ lit5 ++ lit6 ++ lit7] 1)).getD 0 0 == 81) = true := by kernel_rfl
theorem lpub_ne : ¬ lpub lzeros = lzeros := by
  unfold lpub
  rw [pub_lit, join_Q]
  intro e
  have h := key_ev
  have e' : sumQ (joinB 13 [lit0 ++ lit1 ++ lit2 ++ lit3 ++ lit4 ++ lit5 ++ lit6 ++ lit7] 1) = lzeros := e
  rw [e'] at h
  simp [lzeros] at h
end Go.Proofs.Ytdhfiamgmokfbaa

/- Chapter 4's example, and the law on secrets. It proves no statement by itself. -/
set_option linter.unusedSimpArgs false
set_option linter.unusedVariables false
set_option maxRecDepth 100000
set_option maxHeartbeats 2000000
namespace Go.Proofs.Ytdhfiamgmokfbaa
open Go Go.RowKit E
theorem length_lzeros : lzeros.length = 32 := by simp [lzeros]
theorem l4awake_calls (w0 : World) :
    Ret Try.prog 34 [] w0 fun v w' => v = .bool true ∧ Below w0.heap.size w0 w' := by
  refine enter Try.func34 rfl Try.ntmps34 (Nat.le_of_ble_eq_true rfl) ?_
  have S := St.init w0
  obtain ⟨z, hz⟩ : ∃ z, z = lzeros := ⟨_, rfl⟩
  have hl : z.length = 32 := by rw [hz]; exact length_lzeros
  refine s_seq (s_plain ?_)
  refine p_val (e_assign (v := .bool _) rfl) rfl ?_
  refine p_nil (x_then (s_seq (s_plain ?_)))
  refine p_does (d_allocA S zvS) rfl ?_
  rintro _ w ⟨b1, rfl, S⟩
  have S := S.asEx (show _ = (bv z).toArray by rw [hz]; rfl)
  refine p_nil (x_then (s_seq (s_plain ?_)))
  refine p_val (e_loadW 0 rfl ag29 sz29 S rfl rfl (by first | assumption | (simp [cat, length_lpub, hl]; done) | (simp [cat, length_lpub, hl]; omega) | rfl)) rfl ?_
  refine p_does (d_call Try.func29 nm29 rfl rfl (lsign_calls _ z _ _ _ [] (by first | assumption | (simp [cat, length_lpub, hl]; done) | (simp [cat, length_lpub, hl]; omega) | rfl) (Rd.nil _ _ _) (by omega))) rfl ?_
  rintro _ w ⟨k4, c4, rfl, T⟩
  have S := S.merge T rfl
  refine p_val (e_assign (v := .slice _ _ _) rfl) rfl ?_
  refine p_nil (x_then (s_seq ?_))
  refine s_cutK (ks := [k4, some b1]) (ps := [Rw _ _ _ _ _, Ex _ _]) [] trivial S (fun keep ks ps f' w' => ∃ u bb, f' = upds u ((0, .bool bb) :: keep) ∧ (bb = true ↔ True) ∧ St w0 w' [] ks ps) ?_ ?_
  · refine s_plain ?_
    refine p_val (e_move (v := .slice _ _ _) rfl) rfl ?_
    refine p_val (e_len rfl Try.underlying33) rfl ?_
    refine p_valB (e_eql rfl rfl) rfl (fun hg7 => ?_) (fun hg7 => ?_)
    · refine p_val (e_move (v := .bool _) rfl) rfl ?_
      refine p_val (e_pick_t rfl rfl) rfl ?_
      refine p_val (e_move (v := .bool _) rfl) rfl ?_
      refine p_val (e_pick_t rfl rfl) rfl ?_
      refine p_val (e_move (v := .bool _) rfl) rfl ?_
      refine pg_val rfl rfl rfl rfl rfl (e_loadW 1 rfl ag29 sz29 S rfl rfl (by first | assumption | (simp [cat, length_lpub, hl]; done) | (simp [cat, length_lpub, hl]; omega) | rfl)) ?_
      refine pg_does rfl rfl rfl rfl rfl (d_call Try.func31 nm31 rfl rfl (lpub_calls _ z (by first | assumption | (simp [cat, length_lpub, hl]; done) | (simp [cat, length_lpub, hl]; omega) | rfl))) ?_
      rintro _ w ⟨rfl, hB⟩
      have S := S.below hB
      refine pg_val rfl rfl rfl rfl rfl (e_move (v := .slice _ _ _) rfl) ?_
      refine pg_does rfl rfl rfl rfl rfl (d_call Try.func32 nm32 rfl rfl (verify_yes _ _ _ _ _ _ _ _ [] _ (by first | assumption | (simp [cat, length_lpub, hl]; done) | (simp [cat, length_lpub, hl]; omega) | rfl) (Rd.nil _ _ _) (by omega) (S.rdRw 0 rfl rfl) (S.capRw 0 rfl rfl) (by omega))) ?_
      rintro _ w ⟨rfl, hB⟩
      have S := S.below hB
      rcases Classical.em (lback [] (lsig z []) = lpub z) with hg16 | hg16
      · rw [decide_eq_true hg16]
        refine p_val (e_pick_t rfl rfl) rfl ?_
        refine p_val (e_move (v := .bool _) rfl) rfl ?_
        refine pg_val rfl rfl rfl rfl rfl (e_loadW 1 rfl ag29 sz29 S rfl rfl (by first | assumption | (simp [cat, length_lpub, hl]; done) | (simp [cat, length_lpub, hl]; omega) | rfl)) ?_
        refine pg_val rfl rfl rfl rfl rfl (e_move (v := .slice _ _ _) rfl) ?_
        refine pg_does rfl rfl rfl rfl rfl (d_call Try.func32 nm32 rfl rfl (verify_yes _ z _ _ _ _ _ _ [] _ (by first | assumption | (simp [cat, length_lpub, hl]; done) | (simp [cat, length_lpub, hl]; omega) | rfl) (Rd.nil _ _ _) (by omega) (S.rdRw 0 rfl rfl) (S.capRw 0 rfl rfl) (by omega))) ?_
        rintro _ w ⟨rfl, hB⟩
        have S := S.below hB
        rcases Classical.em (lback [] (lsig z []) = z) with hg21 | hg21
        · exact False.elim (lpub_ne (hz ▸ (back_sign z []).symm.trans hg21))
        · rw [decide_eq_false hg21]
          refine pg_val rfl rfl rfl rfl rfl (e_not rfl) ?_
          refine p_val (e_pick_t rfl rfl) rfl ?_
          refine p_val (e_assign (v := .bool _) rfl) rfl ?_
          exact p_nil (x_then ⟨_, rfl, _, _, upds_eq ⟨rfl, trivial⟩, by first | (simp only [decide_eq_true_eq, eq_self, true_iff, iff_true, iff_false, Bool.false_eq_true, false_iff, ge_iff_le, gt_iff_lt, true_and, and_true, false_and, and_false, true_or, or_true, false_or, or_false, not_true_eq_false, not_false_eq_true]; omega) | simp | omega | simp_all, S⟩)
      · exact False.elim (hg16 (back_sign _ _))
    · exact False.elim (hg7 rfl)
  · rintro f w ⟨u, b0, rfl, hb0, S⟩
    refine x_then (s_ret ?_)
    exact post1 (v := .bool _) Try.results34 rfl (⟨by rw [hb0.2 trivial], S.to_below⟩)
theorem lsecrets_calls (w0 : World) (s : List Nat) (i b : Int) (hs : s.length = 32) :
    Ret Try.prog 6 [.agg (bv s).toArray, .int .i64 i, .int .i64 b] w0 fun v w' => v = .bool true ∧ Below w0.heap.size w0 w' := by
  refine enter Try.func6 rfl Try.ntmps6 (Nat.le_of_ble_eq_true rfl) ?_
  have S := St.init w0
  refine s_seq (s_plain ?_)
  refine p_does (d_boxA S rfl) rfl ?_
  rintro _ w ⟨b3, rfl, S⟩
  refine p_val (e_assign (v := .bool _) rfl) rfl ?_
  refine p_nil (x_then (s_seq (s_plain ?_)))
  refine p_val (e_loadW 0 rfl ag29 sz29 S rfl rfl (by first | assumption | (simp [cat, length_lsec, length_lshown, hs]; done) | (simp [cat, length_lsec, length_lshown, hs]; omega) | rfl)) rfl ?_
  refine p_val (e_move (v := .int _ _) rfl) rfl ?_
  refine p_val (e_move (v := .int _ _) rfl) rfl ?_
  refine p_does (d_call Try.func35 nm35 rfl rfl (lsec_calls _ _ _ _ (by first | assumption | (simp [cat, length_lsec, length_lshown, hs]; done) | (simp [cat, length_lsec, length_lshown, hs]; omega) | rfl))) rfl ?_
  rintro _ w ⟨rfl, hB⟩
  have S := S.below hB
  refine p_does (d_allocA S zvS) rfl ?_
  rintro _ w ⟨b7, rfl, S⟩
  refine p_does (d_storeW S 0 rfl rfl (by first | exact bv_one _ | exact sv_one _ | exact iv_one _ | assumption | (refine One.mem ?_; repeat (first | exact One.bv _ | exact One.sv _ | exact One.iv _ | exact One.nil | exact One.cat0 | refine One.cat1 ?_ ?_ | refine One.cons rfl ?_ | refine One.append ?_ ?_))) sz29 (by first | assumption | (simp [cat, length_lsec, length_lshown, hs]; done) | (simp [cat, length_lsec, length_lshown, hs]; omega) | rfl) rfl rfl (by first | assumption | (simp [cat, length_lsec, length_lshown, hs]; done) | (simp [cat, length_lsec, length_lshown, hs]; omega) | rfl)) rfl ?_
  intro _ w S
  refine p_nil (x_then (s_seq (s_seq ?_)))
  refine s_cutK (ks := [some b7, some b3]) (ps := [Ex _ _, Ex _ _]) [(1, .int _ _), (2, .int _ _), (3, .pointer _), (7, .pointer _)] ⟨rfl, rfl, rfl, rfl, trivial⟩ S (fun keep ks ps f' w' => ∃ u bb, f' = upds u ((25, .bool bb) :: keep) ∧ (bb = true ↔ ((((i < (0 : Int)) ∨ ((255 : Int) < i)) ∨ (b < (0 : Int))) ∨ ((1 : Int) < b))) ∧ St w0 w' [] ks ps) ?_ ?_
  · refine s_plain ?_
    refine p_val (e_move (v := .int _ _) rfl) rfl ?_
    refine p_valB (e_lss rfl rfl) rfl (fun hg13 => ?_) (fun hg13 => ?_)
    · refine p_val (e_move (v := .bool _) rfl) rfl ?_
      refine p_no rfl rfl rfl rfl rfl ?_
      refine p_no rfl rfl rfl rfl rfl ?_
      refine p_val (e_pick_t rfl rfl) rfl ?_
      refine p_val (e_move (v := .bool _) rfl) rfl ?_
      refine p_no rfl rfl rfl rfl rfl ?_
      refine p_no rfl rfl rfl rfl rfl ?_
      refine p_val (e_pick_t rfl rfl) rfl ?_
      refine p_val (e_move (v := .bool _) rfl) rfl ?_
      refine p_no rfl rfl rfl rfl rfl ?_
      refine p_no rfl rfl rfl rfl rfl ?_
      refine p_val (e_pick_t rfl rfl) rfl ?_
      exact p_nil (x_then ⟨_, rfl, _, _, upds_eq ⟨rfl, rfl, rfl, rfl, rfl, trivial⟩, by first | (simp only [decide_eq_true_eq, eq_self, true_iff, iff_true, iff_false, Bool.false_eq_true, false_iff, ge_iff_le, gt_iff_lt, true_and, and_true, false_and, and_false, true_or, or_true, false_or, or_false, not_true_eq_false, not_false_eq_true]; omega) | simp | omega | simp_all, S⟩)
    · refine p_val (e_move (v := .bool _) rfl) rfl ?_
      refine pg_val rfl rfl rfl rfl rfl (e_move (v := .int _ _) rfl) ?_
      refine pg_valB rfl rfl rfl rfl rfl (e_gtr rfl rfl) (fun hg16 => ?_) (fun hg16 => ?_)
      · refine p_val (e_pick_f rfl rfl) rfl ?_
        refine p_val (e_move (v := .bool _) rfl) rfl ?_
        refine p_no rfl rfl rfl rfl rfl ?_
        refine p_no rfl rfl rfl rfl rfl ?_
        refine p_val (e_pick_t rfl rfl) rfl ?_
        refine p_val (e_move (v := .bool _) rfl) rfl ?_
        refine p_no rfl rfl rfl rfl rfl ?_
        refine p_no rfl rfl rfl rfl rfl ?_
        refine p_val (e_pick_t rfl rfl) rfl ?_
        exact p_nil (x_then ⟨_, rfl, _, _, upds_eq ⟨rfl, rfl, rfl, rfl, rfl, trivial⟩, by first | (simp only [decide_eq_true_eq, eq_self, true_iff, iff_true, iff_false, Bool.false_eq_true, false_iff, ge_iff_le, gt_iff_lt, true_and, and_true, false_and, and_false, true_or, or_true, false_or, or_false, not_true_eq_false, not_false_eq_true]; omega) | simp | omega | simp_all, S⟩)
      · refine p_val (e_pick_f rfl rfl) rfl ?_
        refine p_val (e_move (v := .bool _) rfl) rfl ?_
        refine pg_val rfl rfl rfl rfl rfl (e_move (v := .int _ _) rfl) ?_
        refine pg_valB rfl rfl rfl rfl rfl (e_lss rfl rfl) (fun hg20 => ?_) (fun hg20 => ?_)
        · refine p_val (e_pick_f rfl rfl) rfl ?_
          refine p_val (e_move (v := .bool _) rfl) rfl ?_
          refine p_no rfl rfl rfl rfl rfl ?_
          refine p_no rfl rfl rfl rfl rfl ?_
          refine p_val (e_pick_t rfl rfl) rfl ?_
          exact p_nil (x_then ⟨_, rfl, _, _, upds_eq ⟨rfl, rfl, rfl, rfl, rfl, trivial⟩, by first | (simp only [decide_eq_true_eq, eq_self, true_iff, iff_true, iff_false, Bool.false_eq_true, false_iff, ge_iff_le, gt_iff_lt, true_and, and_true, false_and, and_false, true_or, or_true, false_or, or_false, not_true_eq_false, not_false_eq_true]; omega) | simp | omega | simp_all, S⟩)
        · refine p_val (e_pick_f rfl rfl) rfl ?_
          refine p_val (e_move (v := .bool _) rfl) rfl ?_
          refine pg_val rfl rfl rfl rfl rfl (e_move (v := .int _ _) rfl) ?_
          refine pg_val rfl rfl rfl rfl rfl (e_gtr rfl rfl) ?_
          refine p_val (e_pick_f rfl rfl) rfl ?_
          exact p_nil (x_then ⟨_, rfl, _, _, upds_eq ⟨rfl, rfl, rfl, rfl, rfl, trivial⟩, by first | (simp only [decide_eq_true_eq, eq_self, true_iff, iff_true, iff_false, Bool.false_eq_true, false_iff, ge_iff_le, gt_iff_lt, true_and, and_true, false_and, and_false, true_or, or_true, false_or, or_false, not_true_eq_false, not_false_eq_true]; omega) | simp | omega | simp_all, S⟩)
  · rintro f w ⟨u, b25, rfl, hb25, S⟩
    refine x_then ?_
    refine s_condb rfl (fun hc25 => ?_) (fun hc25 => ?_)
    · have hp25 : ((((i < (0 : Int)) ∨ ((255 : Int) < i)) ∨ (b < (0 : Int))) ∨ ((1 : Int) < b)) := hb25.1 hc25
      refine s_seq ?_
      refine s_cutK (ks := [some b7, some b3]) (ps := [Ex _ _, Ex _ _]) [] trivial S (fun keep ks ps f' w' => ∃ u bb, f' = upds u ((6, .bool bb) :: keep) ∧ (bb = true ↔ True) ∧ St w0 w' [] ks ps) ?_ ?_
      · refine s_drawK (ks := [some b7, some b3]) (ps := [Ex _ _, Ex _ _]) S [(true, 0), (true, 2), (false, 1), (false, 3), (true, 4), (true, 5), (false, 6), (true, 7)] [8] [8] mixed (by kernel_rfl) (by repeat (first | exact Calm.post _ _ _ | refine Calm.then ?_ _ | refine Calm.inB ?_ _)) (fun hS => ?_)
        have S := S.drew
        refine q_val (fun w hS => e_loadW 0 rfl ag29 sz29 hS rfl rfl (by first | assumption | (simp [cat, length_lsec, length_lshown, hs]; done) | (simp [cat, length_lsec, length_lshown, hs]; omega) | rfl)) rfl hS ?_
        refine q_val (fun w hS => e_loadW 0 rfl ag29 sz29 hS rfl rfl (by first | assumption | (simp [cat, length_lsec, length_lshown, hs]; done) | (simp [cat, length_lsec, length_lshown, hs]; omega) | rfl)) rfl hS ?_
        refine q_does (d_call Try.func36 nm36 rfl rfl (lshown_calls _ _ (by first | assumption | (simp [cat, length_lsec, length_lshown, hs]; done) | (simp [cat, length_lsec, length_lshown, hs]; omega) | rfl))) rfl ?_
        rintro _ w ⟨rfl, hB⟩
        have S := S.below hB
        have hS := S.pk [0, 1] rfl
        refine ⟨hS, ?_⟩
        refine q_does (d_call Try.func28 nm28 rfl rfl (l4shown_calls _ _ (by first | assumption | (simp [cat, length_lsec, length_lshown, hs]; done) | (simp [cat, length_lsec, length_lshown, hs]; omega) | rfl))) rfl ?_
        rintro _ w ⟨rfl, hB⟩
        have S := S.below hB
        have hS := S.pk [0, 1] rfl
        refine ⟨hS, ?_⟩
        refine q_valB (fun w hS => EqT.sum eq29 gd29 rfl rfl (by first | assumption | (simp [cat, length_lsec, length_lshown, hs]; done) | (simp [cat, length_lsec, length_lshown, hs]; omega) | rfl) (by first | assumption | (simp [cat, length_lsec, length_lshown, hs]; done) | (simp [cat, length_lsec, length_lshown, hs]; omega) | rfl)) rfl hS (fun hg30 => ?_) (fun hg30 => ?_)
        · refine q_val (fun w hS => e_move (v := .bool _) rfl) rfl hS ?_
          refine qg_does rfl rfl rfl rfl rfl (d_call Try.func34 nm34 rfl rfl (l4awake_calls _)) ?_
          rintro _ w ⟨rfl, hB⟩
          have S := S.below hB
          have hS := S.pk [0, 1] rfl
          refine ⟨hS, ?_⟩
          refine q_val (fun w hS => e_pick_t rfl rfl) rfl hS ?_
          refine q_nil ?_
          refine p_val (e_assign (v := .bool _) rfl) rfl ?_
          exact p_nil (x_then ⟨_, rfl, _, _, upds_eq ⟨rfl, trivial⟩, by first | (simp only [decide_eq_true_eq, eq_self, true_iff, iff_true, iff_false, Bool.false_eq_true, false_iff, ge_iff_le, gt_iff_lt, true_and, and_true, false_and, and_false, true_or, or_true, false_or, or_false, not_true_eq_false, not_false_eq_true]; omega) | simp | omega | simp_all, S⟩)
        · exact False.elim (hg30 rfl)
      · rintro f w ⟨u, b6, rfl, hb6, S⟩
        refine x_then (s_ret (x_then_ret ?_))
        exact post1 (v := .bool _) Try.results6 rfl (⟨by rw [hb6.2 trivial], S.to_below⟩)
    · have hp25 : ¬ ((((i < (0 : Int)) ∨ ((255 : Int) < i)) ∨ (b < (0 : Int))) ∨ ((1 : Int) < b)) := fun h => by rw [hb25.2 h] at hc25; cases hc25
      refine s_skip (x_then (s_seq ?_))
      refine s_cutK (ks := [some b7, some b3]) (ps := [Ex _ _, Ex _ _]) [] trivial S (fun keep ks ps f' w' => ∃ u bb, f' = upds u ((6, .bool bb) :: keep) ∧ (bb = true ↔ True) ∧ St w0 w' [] ks ps) ?_ ?_
      · refine s_drawK (ks := [some b7, some b3]) (ps := [Ex _ _, Ex _ _]) S [(true, 0), (true, 1), (true, 2), (true, 3), (false, 4), (true, 5), (true, 6), (true, 7), (true, 9), (false, 8), (false, 10), (true, 11), (true, 12), (true, 13), (false, 14), (true, 15)] [16] [16] mixed (by kernel_rfl) (by repeat (first | exact Calm.post _ _ _ | refine Calm.then ?_ _ | refine Calm.inB ?_ _)) (fun hS => ?_)
        have S := S.drew
        refine q_val (fun w hS => e_loadW 0 rfl ag29 sz29 hS rfl rfl (by first | assumption | (simp [cat, length_lsec, length_lshown, hs]; done) | (simp [cat, length_lsec, length_lshown, hs]; omega) | rfl)) rfl hS ?_
        refine q_val (fun w hS => e_loadW 1 rfl ag29 sz29 hS rfl rfl (by first | assumption | (simp [cat, length_lsec, length_lshown, hs]; done) | (simp [cat, length_lsec, length_lshown, hs]; omega) | rfl)) rfl hS ?_
        refine q_val (fun w hS => e_move (v := .int _ _) rfl) rfl hS ?_
        refine q_val (fun w hS => e_move (v := .int _ _) rfl) rfl hS ?_
        refine q_does (d_call Try.func27 nm27 rfl rfl (l4sec_calls _ _ _ _ (by first | assumption | (simp [cat, length_lsec, length_lshown, hs]; done) | (simp [cat, length_lsec, length_lshown, hs]; omega) | rfl))) rfl ?_
        rintro _ w ⟨rfl, hB⟩
        have S := S.below hB
        have hS := S.pk [0, 1] rfl
        refine ⟨hS, ?_⟩
        refine q_valB (fun w hS => EqT.sum eq29 gd29 rfl rfl (by first | assumption | (simp [cat, length_lsec, length_lshown, hs]; done) | (simp [cat, length_lsec, length_lshown, hs]; omega) | rfl) (by first | assumption | (simp [cat, length_lsec, length_lshown, hs]; done) | (simp [cat, length_lsec, length_lshown, hs]; omega) | rfl)) rfl hS (fun hg39 => ?_) (fun hg39 => ?_)
        · refine q_val (fun w hS => e_move (v := .bool _) rfl) rfl hS ?_
          refine qg_val rfl rfl rfl rfl rfl (fun w hS => e_loadW 1 rfl ag29 sz29 hS rfl rfl (by first | assumption | (simp [cat, length_lsec, length_lshown, hs]; done) | (simp [cat, length_lsec, length_lshown, hs]; omega) | rfl)) hS ?_
          refine qg_val rfl rfl rfl rfl rfl (fun w hS => e_loadW 1 rfl ag29 sz29 hS rfl rfl (by first | assumption | (simp [cat, length_lsec, length_lshown, hs]; done) | (simp [cat, length_lsec, length_lshown, hs]; omega) | rfl)) hS ?_
          refine qg_does rfl rfl rfl rfl rfl (d_call Try.func36 nm36 rfl rfl (lshown_calls _ _ (by first | assumption | (simp [cat, length_lsec, length_lshown, hs]; done) | (simp [cat, length_lsec, length_lshown, hs]; omega) | rfl))) ?_
          rintro _ w ⟨rfl, hB⟩
          have S := S.below hB
          have hS := S.pk [0, 1] rfl
          refine ⟨hS, ?_⟩
          refine qg_does rfl rfl rfl rfl rfl (d_call Try.func28 nm28 rfl rfl (l4shown_calls _ _ (by first | assumption | (simp [cat, length_lsec, length_lshown, hs]; done) | (simp [cat, length_lsec, length_lshown, hs]; omega) | rfl))) ?_
          rintro _ w ⟨rfl, hB⟩
          have S := S.below hB
          have hS := S.pk [0, 1] rfl
          refine ⟨hS, ?_⟩
          refine qg_valB rfl rfl rfl rfl rfl (fun w hS => EqT.sum eq29 gd29 rfl rfl (by first | assumption | (simp [cat, length_lsec, length_lshown, hs]; done) | (simp [cat, length_lsec, length_lshown, hs]; omega) | rfl) (by first | assumption | (simp [cat, length_lsec, length_lshown, hs]; done) | (simp [cat, length_lsec, length_lshown, hs]; omega) | rfl)) hS (fun hg45 => ?_) (fun hg45 => ?_)
          · refine q_val (fun w hS => e_pick_t rfl rfl) rfl hS ?_
            refine q_val (fun w hS => e_move (v := .bool _) rfl) rfl hS ?_
            refine qg_does rfl rfl rfl rfl rfl (d_call Try.func34 nm34 rfl rfl (l4awake_calls _)) ?_
            rintro _ w ⟨rfl, hB⟩
            have S := S.below hB
            have hS := S.pk [0, 1] rfl
            refine ⟨hS, ?_⟩
            refine q_val (fun w hS => e_pick_t rfl rfl) rfl hS ?_
            refine q_nil ?_
            refine p_val (e_assign (v := .bool _) rfl) rfl ?_
            exact p_nil (x_then ⟨_, rfl, _, _, upds_eq ⟨rfl, trivial⟩, by first | (simp only [decide_eq_true_eq, eq_self, true_iff, iff_true, iff_false, Bool.false_eq_true, false_iff, ge_iff_le, gt_iff_lt, true_and, and_true, false_and, and_false, true_or, or_true, false_or, or_false, not_true_eq_false, not_false_eq_true]; omega) | simp | omega | simp_all, S⟩)
          · exact False.elim (hg45 rfl)
        · exact False.elim (hg39 (by rw [show b % 2 = b by omega]))
      · rintro f w ⟨u, b6, rfl, hb6, S⟩
        refine x_then (s_ret ?_)
        exact post1 (v := .bool _) Try.results6 rfl (⟨by rw [hb6.2 trivial], S.to_below⟩)
end Go.Proofs.Ytdhfiamgmokfbaa

/- Lamport's law on what leads back. It proves no statement by itself. -/
set_option linter.unusedSimpArgs false
set_option linter.unusedVariables false
set_option maxRecDepth 100000
set_option maxHeartbeats 2000000
namespace Go.Proofs.Ytdhfiamgmokfbaa
open Go Go.RowKit E
def lbk (n : Nat) (l g : List Nat) : List Nat := if n = 4096 then lback l g else zsum
def ler (n : Nat) : Int := if n = 4096 then 0 else 11
theorem length_lbk (n : Nat) (l g : List Nat) : (lbk n l g).length = 32 := by unfold lbk; split <;> simp [length_lback, length_zsum]
theorem lback_gen (w0 : World) (A A2 : Option Addr) (n c0 n2 cc : Nat) (l g2 : List Nat) (R : Rd w0 1 A n (bv l)) (hn : n ≤ 1099511620000) (R2 : Rd w0 1 A2 n2 (bv g2)) (hcc : n2 ≤ cc) :
    Ret Try.prog 30 [.slice A n c0, .slice A2 n2 cc] w0 fun v w' => v = .tuple #[.agg (bv (lbk n2 l g2)).toArray, .int .i64 (ler n2)] ∧ Below w0.heap.size w0 w' :=
  (lback_calls w0 A A2 n c0 n2 cc l g2 R hn R2 hcc).mono fun v w' ⟨hv, hB⟩ => ⟨by rw [hv]; unfold lbk ler; split <;> rfl, hB⟩
theorem verify_gen (w0 : World) (key : List Nat) (A A2 : Option Addr) (n c0 n2 cc : Nat) (l g2 : List Nat) (hk : key.length = 32) (R : Rd w0 1 A n (bv l)) (hn : n ≤ 1099511620000) (R2 : Rd w0 1 A2 n2 (bv g2)) (hcc : n2 ≤ cc) :
    Ret Try.prog 32 [.agg (bv key).toArray, .slice A n c0, .slice A2 n2 cc] w0 fun v w' => v = .bool (decide (n2 = 4096 ∧ lback l g2 = key)) ∧ Below w0.heap.size w0 w' := by
  by_cases h : n2 = 4096
  · exact (verify_yes w0 key A A2 n c0 n2 cc l g2 hk R hn R2 hcc h).mono fun v w' ⟨hv, hB⟩ => ⟨by rw [hv]; simp [h], hB⟩
  · exact (verify_no w0 key A A2 n c0 n2 cc l g2 hk R hn R2 hcc h).mono fun v w' ⟨hv, hB⟩ => ⟨by rw [hv]; simp [h], hB⟩
theorem half_eq (g : List Nat) (i : Nat) : (g.take (64 * i + 32)).drop (64 * i) = half g i := by
  unfold half; rw [List.drop_take, show 64 * i + 32 - 64 * i = 32 by omega]
theorem oth_eq (g : List Nat) (i : Nat) : (g.take (64 * i + 64)).drop (64 * i + 32) = oth g i := by
  unfold oth; rw [List.drop_take]
theorem lbacks_calls (w0 : World) (A A2 : Option Addr) (n c n2 c2 : Nat) (l g2 key : List Nat) (R : Rd w0 1 A n (bv l)) (hc : n ≤ c) (R2 : Rd w0 1 A2 n2 (bv g2)) (hc2 : n2 ≤ c2) (hk : key.length = 32) :
    Ret Try.prog 5 [.slice A n c, .slice A2 n2 c2, .agg (bv key).toArray] w0 fun v w' => v = .bool true ∧ Below w0.heap.size w0 w' := by
  refine enter Try.func5 rfl Try.ntmps5 (Nat.le_of_ble_eq_true rfl) ?_
  have S := St.init w0
  have hg2 : g2.length = n2 := by simpa using R2.1
  refine s_seq (s_plain ?_)
  refine p_does (d_boxA S rfl) rfl ?_
  rintro _ w ⟨b5, rfl, S⟩
  refine p_val (e_assign (v := .bool _) rfl) rfl ?_
  refine p_nil (x_then (s_seq (s_plain ?_)))
  refine p_val (e_move (v := .slice _ _ _) rfl) rfl ?_
  refine p_does (d_call Try.func25 nm25 rfl rfl (cut_calls _ _ _ _ (by omega))) rfl ?_
  rintro _ w ⟨rfl, hB⟩
  have S := S.below hB
  refine p_val (e_assign (v := .slice _ _ _) rfl) rfl ?_
  refine p_nil (x_then (s_seq (s_plain ?_)))
  refine p_val (e_move (v := .slice _ _ _) rfl) rfl ?_
  refine p_val (e_move (v := .slice _ _ _) rfl) rfl ?_
  refine p_does (d_call Try.func30 nm30 rfl rfl (lback_gen _ _ _ _ _ _ _ _ _ (Rd.take_bv (S.rdOld R rfl) (Nat.min_le_left n 200)) (by omega) (S.rdOld R2 rfl) (by omega))) rfl ?_
  rintro _ w ⟨rfl, hB⟩
  have S := S.below hB
  refine p_val (e_move (v := .tuple _) rfl) rfl ?_
  refine p_val (e_extract rfl rfl) rfl ?_
  refine p_val (e_extract rfl rfl) rfl ?_
  refine p_does (d_allocA S zvS) rfl ?_
  rintro _ w ⟨b7, rfl, S⟩
  refine p_does (d_storeW S 0 rfl rfl (by first | exact bv_one _ | exact sv_one _ | exact iv_one _ | with_reducible assumption | (refine One.mem ?_; repeat (first | exact One.bv _ | exact One.sv _ | exact One.iv _ | exact One.nil | exact One.cat0 | refine One.cat1 ?_ ?_ | refine One.cons rfl ?_ | refine One.append ?_ ?_))) sz29 (by first | with_reducible assumption | (simp [cat, length_lbk, length_lback, length_lshown, length_join, length_ldig, length_zsum, hk]; done) | (simp [cat, length_lbk, length_lback, length_lshown, length_join, length_ldig, length_zsum, hk]; omega) | rfl) rfl rfl (by first | with_reducible assumption | (simp [cat, length_lbk, length_lback, length_lshown, length_join, length_ldig, length_zsum, hk]; done) | (simp [cat, length_lbk, length_lback, length_lshown, length_join, length_ldig, length_zsum, hk]; omega) | rfl)) rfl ?_
  intro _ w S
  refine p_val (e_assign (v := .int _ _) rfl) rfl ?_
  refine p_nil (x_then (s_seq (s_seq (s_plain ?_))))
  refine p_val (e_move (v := .slice _ _ _) rfl) rfl ?_
  refine p_val (e_len rfl Try.underlying33) rfl ?_
  refine p_val (e_neq rfl rfl) rfl ?_
  refine p_nil (x_then ?_)
  refine s_cond rfl (fun hc24 => ?_) (fun hc24 => ?_)
  · have h4 : ¬ n2 = 4096 := by omega
    refine s_seq ?_
    refine s_cutK (ks := [some b7, some b5]) (ps := [Ex _ _, Ex _ _]) [] trivial S (fun keep ks ps f' w' => ∃ u bb, f' = upds u ((6, .bool bb) :: keep) ∧ (bb = true ↔ True) ∧ St w0 w' [] ks ps) ?_ ?_
    · refine s_plain ?_
      refine p_val (e_loadW 0 rfl ag29 sz29 S rfl rfl (by first | with_reducible assumption | (simp [cat, length_lbk, length_lback, length_lshown, length_join, length_ldig, length_zsum, hk]; done) | (simp [cat, length_lbk, length_lback, length_lshown, length_join, length_ldig, length_zsum, hk]; omega) | rfl)) rfl ?_
      refine p_val (e_build (cs := bv zsum) (by kernel_rfl)) rfl ?_
      refine p_valB (EqT.sum eq29 gd29 rfl rfl (by first | with_reducible assumption | (simp [cat, length_lbk, length_lback, length_lshown, length_join, length_ldig, length_zsum, hk]; done) | (simp [cat, length_lbk, length_lback, length_lshown, length_join, length_ldig, length_zsum, hk]; omega) | rfl) (by first | with_reducible assumption | (simp [cat, length_lbk, length_lback, length_lshown, length_join, length_ldig, length_zsum, hk]; done) | (simp [cat, length_lbk, length_lback, length_lshown, length_join, length_ldig, length_zsum, hk]; omega) | rfl)) rfl (fun hg27 => ?_) (fun hg27 => ?_)
      · refine p_val (e_move (v := .bool _) rfl) rfl ?_
        refine pg_val rfl rfl rfl rfl rfl (e_move (v := .int _ _) rfl) ?_
        refine pg_valB rfl rfl rfl rfl rfl (e_eql rfl rfl) (fun hg30 => ?_) (fun hg30 => ?_)
        · refine p_val (e_pick_t rfl rfl) rfl ?_
          refine p_val (e_move (v := .bool _) rfl) rfl ?_
          refine pg_val rfl rfl rfl rfl rfl (e_loadW 1 rfl ag29 sz29 S rfl rfl (by first | with_reducible assumption | (simp [cat, length_lbk, length_lback, length_lshown, length_join, length_ldig, length_zsum, hk]; done) | (simp [cat, length_lbk, length_lback, length_lshown, length_join, length_ldig, length_zsum, hk]; omega) | rfl)) ?_
          refine pg_val rfl rfl rfl rfl rfl (e_move (v := .slice _ _ _) rfl) ?_
          refine pg_val rfl rfl rfl rfl rfl (e_move (v := .slice _ _ _) rfl) ?_
          refine pg_does rfl rfl rfl rfl rfl (d_call Try.func32 nm32 rfl rfl (verify_gen _ _ _ _ _ _ _ _ _ _ (by first | with_reducible assumption | (simp [cat, length_lbk, length_lback, length_lshown, length_join, length_ldig, length_zsum, hk]; done) | (simp [cat, length_lbk, length_lback, length_lshown, length_join, length_ldig, length_zsum, hk]; omega) | rfl) (Rd.take_bv (S.rdOld R rfl) (Nat.min_le_left n 200)) (by omega) (S.rdOld R2 rfl) (by omega))) ?_
          rintro _ w ⟨rfl, hB⟩
          have S := S.below hB
          rcases Classical.em (n2 = 4096 ∧ lback (l.take (min n 200)) g2 = key) with hg36 | hg36
          · exact False.elim (h4 hg36.1)
          · rw [decide_eq_false hg36]
            refine pg_val rfl rfl rfl rfl rfl (e_not rfl) ?_
            refine p_val (e_pick_t rfl rfl) rfl ?_
            refine p_val (e_move (v := .bool _) rfl) rfl ?_
            refine pg_does rfl rfl rfl rfl rfl (d_call Try.func34 nm34 rfl rfl (l4awake_calls _)) ?_
            rintro _ w ⟨rfl, hB⟩
            have S := S.below hB
            refine p_val (e_pick_t rfl rfl) rfl ?_
            refine p_val (e_assign (v := .bool _) rfl) rfl ?_
            exact p_nil (x_then ⟨_, rfl, _, _, upds_eq ⟨rfl, trivial⟩, by first | (simp only [decide_eq_true_eq, eq_self, true_iff, iff_true, iff_false, Bool.false_eq_true, false_iff, ge_iff_le, gt_iff_lt, true_and, and_true, false_and, and_false, true_or, or_true, false_or, or_false, not_true_eq_false, not_false_eq_true]; omega) | simp | omega | simp_all, S⟩)
        · exact False.elim (hg30 (if_neg h4))
      · exact False.elim (hg27 (if_neg h4))
    · rintro f w ⟨u, b6, rfl, hb6, S⟩
      refine x_then (s_ret (x_then_ret ?_))
      exact post1 (v := .bool _) Try.results5 rfl (⟨by rw [hb6.2 trivial], S.to_below⟩)
  · obtain rfl : n2 = 4096 := by omega
    refine s_skip (x_then (s_seq (s_plain ?_)))
    refine p_val (e_assign (v := .slice _ _ _) rfl) rfl ?_
    refine p_nil (x_then (s_seq (s_seq (s_plain ?_))))
    refine p_val (e_assign (v := .int _ _) rfl) rfl ?_
    refine p_nil (x_then (s_block ?_))
    have S := S.addNil 5 1
    refine s_loopK (α := Nat) (ks := [none, some b7, some b5]) (ps := [Rw _ _ _ _ _, Ex _ _, Ex _ _]) [(0, .slice _ _ _), (1, .slice _ _ _), (5, .pointer _), (7, .pointer _), (8, .int _ _)] ⟨rfl, rfl, rfl, rfl, rfl, trivial⟩ S (fun keep ks ps g f' w' => ∃ u Kk9 Ck9 m xs, f' = upds u ((9, .slice (at_ Kk9) (m) Ck9) :: (10, .int .i64 (g : Int)) :: keep) ∧ (g ≤ 64) ∧ (m = 64 * g) ∧ (xs = bv (backB (ldig (l.take (min n 200))) g2 g)) ∧ St w0 w' [] [Kk9, some b7, some b5] [Rw 5 1 (m) Ck9 (xs), (ps.getD 1 fun _ => True), (ps.getD 2 fun _ => True)]) (fun g => 64 - g) (0) (⟨_, _, _, _, _, upds_eq ⟨rfl, rfl, rfl, rfl, rfl, rfl, rfl, trivial⟩, by first | omega | rfl | with_reducible assumption | (simp; done) | (simp; omega), by first | omega | rfl | with_reducible assumption | (simp; done) | (simp; omega), by first | omega | rfl | with_reducible assumption | (simp; done) | (simp; omega), S⟩) ?_
    rintro g f w ⟨u, Kk9, Ck9, m, xs, rfl, hg, rfl, rfl, S⟩
    refine s_seq (s_seq (s_plain ?_))
    refine p_val (e_move (v := .int _ _) rfl) rfl ?_
    refine p_val (e_lss rfl rfl) rfl ?_
    refine p_nil (x_then ?_)
    refine s_cond rfl (fun hc43 => ?_) (fun hc43 => ?_)
    · refine s_skip (x_then (s_seq ?_))
      refine s_cutK (ks := [Kk9, some b7, some b5]) (ps := [Rw _ _ _ _ _, Ex _ _, Ex _ _]) [(0, .slice _ _ _), (1, .slice _ _ _), (5, .pointer _), (7, .pointer _), (8, .int _ _), (10, .int _ _)] ⟨rfl, rfl, rfl, rfl, rfl, rfl, trivial⟩ S (fun keep ks ps f' w' => ∃ u Kk9 Ck9 m xs, f' = upds u ((9, .slice (at_ Kk9) (m) Ck9) :: keep) ∧ (m = 64 * g + 64) ∧ (xs = bv (backB (ldig (l.take (min n 200))) g2 (g + 1))) ∧ St w0 w' [] [Kk9, some b7, some b5] [Rw 5 1 (m) Ck9 (xs), (ps.getD 1 fun _ => True), (ps.getD 2 fun _ => True)]) ?_ ?_
      · refine s_block (s_seq (s_plain ?_))
        refine p_does (d_allocA S zvS) rfl ?_
        rintro _ w ⟨b11, rfl, S⟩
        refine p_nil (x_then (s_seq ?_))
        refine s_drawZ [(true, 0), (true, 1), (true, 2), (true, 3), (true, 4), (true, 5), (true, 6), (true, 7), (false, 8)] [] [] (fun _ => True) mixed (by kernel_rfl) (by repeat (first | exact Calm.post _ _ _ | refine Calm.then ?_ _ | refine Calm.inB ?_ _)) ?_
        have hS : True := trivial
        have S := S.drew
        refine q_val (fun w hS => e_sl_arr rfl Try.underlying29 sz5) rfl hS ?_
        refine q_val (fun w hS => e_move (v := .slice _ _ _) rfl) rfl hS ?_
        refine q_val (fun w hS => e_move (v := .int _ _) rfl) rfl hS ?_
        refine q_val (fun w hS => e_mul64 rfl rfl (by omega)) rfl hS ?_
        refine q_val (fun w hS => e_move (v := .int _ _) rfl) rfl hS ?_
        refine q_val (fun w hS => e_mul64 rfl rfl (by omega)) rfl hS ?_
        refine q_val (fun w hS => e_add64 rfl rfl (by omega)) rfl hS ?_
        refine q_val (fun w hS => e_sl_lh (64 * g) (64 * g + 32) rfl rfl rfl (by omega) (by omega) (by omega) (by omega) Try.underlying33 sz5) rfl hS ?_
        refine q_does (d_copy0 S 0 rfl rfl Try.underlying33 (by kernel_rfl) rfl rfl (Rd.drop_bv (Rd.take_bv (S.rdOld R2 rfl) (by omega)) (by omega) (by omega)) (by first | exact bv_one _ | exact sv_one _ | exact iv_one _ | with_reducible assumption | (refine One.mem ?_; repeat (first | exact One.bv _ | exact One.sv _ | exact One.iv _ | exact One.nil | exact One.cat0 | refine One.cat1 ?_ ?_ | refine One.cons rfl ?_ | refine One.append ?_ ?_))) (by first | with_reducible assumption | (simp [cat, length_lbk, length_lback, length_lshown, length_join, length_ldig, length_zsum, hk]; done) | (simp [cat, length_lbk, length_lback, length_lshown, length_join, length_ldig, length_zsum, hk]; omega) | rfl)) rfl ?_
        rintro _ w ⟨rfl, S⟩
        have S := S.asEx (copy_all (by simp [length_zsum]) (by simp [hg2]; omega) (by omega))
        have hS := trivial
        refine ⟨hS, ?_⟩
        refine q_nil (x_then (s_seq (s_plain ?_)))
        refine p_val (e_loadW 0 rfl ag29 sz29 S rfl rfl (by first | with_reducible assumption | (simp [cat, length_lbk, length_lback, length_lshown, length_join, length_ldig, length_zsum, hk]; done) | (simp [cat, length_lbk, length_lback, length_lshown, length_join, length_ldig, length_zsum, hk]; omega) | rfl)) rfl ?_
        refine p_does (d_call Try.func28 nm28 rfl rfl (l4shown_calls _ _ (by first | with_reducible assumption | (simp [cat, length_lbk, length_lback, length_lshown, length_join, length_ldig, length_zsum, hk]; done) | (simp [cat, length_lbk, length_lback, length_lshown, length_join, length_ldig, length_zsum, hk]; omega) | rfl))) rfl ?_
        rintro _ w ⟨rfl, hB⟩
        have S := S.below hB
        refine p_does (d_allocA S zvS) rfl ?_
        rintro _ w ⟨b12, rfl, S⟩
        refine p_does (d_storeW S 0 rfl rfl (by first | exact bv_one _ | exact sv_one _ | exact iv_one _ | with_reducible assumption | (refine One.mem ?_; repeat (first | exact One.bv _ | exact One.sv _ | exact One.iv _ | exact One.nil | exact One.cat0 | refine One.cat1 ?_ ?_ | refine One.cons rfl ?_ | refine One.append ?_ ?_))) sz29 (by first | with_reducible assumption | (simp [cat, length_lbk, length_lback, length_lshown, length_join, length_ldig, length_zsum, hk]; done) | (simp [cat, length_lbk, length_lback, length_lshown, length_join, length_ldig, length_zsum, hk]; omega) | rfl) rfl rfl (by first | with_reducible assumption | (simp [cat, length_lbk, length_lback, length_lshown, length_join, length_ldig, length_zsum, hk]; done) | (simp [cat, length_lbk, length_lback, length_lshown, length_join, length_ldig, length_zsum, hk]; omega) | rfl)) rfl ?_
        intro _ w S
        refine p_nil (x_then (s_seq (s_plain ?_)))
        refine p_val (e_move (v := .slice _ _ _) rfl) rfl ?_
        refine p_val (e_move (v := .int _ _) rfl) rfl ?_
        refine p_does (d_call Try.func26 nm26 rfl rfl (l4bit_calls _ _ _ _ _ _ (Rd.take_bv (S.rdOld R rfl) (Nat.min_le_left n 200)) (by omega) (by omega))) rfl ?_
        rintro _ w ⟨rfl, hB⟩
        have S := S.below hB
        refine p_val (e_eql rfl rfl) rfl ?_
        refine p_nil (x_then ?_)
        refine s_cond rfl (fun hc60 => ?_) (fun hc60 => ?_)
        · refine s_seq (s_plain ?_)
          refine p_val (e_move (v := .slice _ _ _) rfl) rfl ?_
          refine p_val (e_sl_arr rfl Try.underlying29 sz5) rfl ?_
          refine p_does (d_append S 2 rfl rfl Try.underlying33 el5 rfl rfl (S.rdBytes 0 rfl rfl (by first | with_reducible assumption | (simp [cat, length_lbk, length_lback, length_lshown, length_join, length_ldig, length_zsum, hk]; done) | (simp [cat, length_lbk, length_lback, length_lshown, length_join, length_ldig, length_zsum, hk]; omega) | rfl)) (by first | exact bv_one _ | exact sv_one _ | exact iv_one _ | with_reducible assumption | (refine One.mem ?_; repeat (first | exact One.bv _ | exact One.sv _ | exact One.iv _ | exact One.nil | exact One.cat0 | refine One.cat1 ?_ ?_ | refine One.cons rfl ?_ | refine One.append ?_ ?_))) (by omega) (by unfold maxLen; omega)) rfl ?_
          rintro _ w ⟨k63, c63, rfl, S⟩
          refine p_val (e_assign (v := .slice _ _ _) rfl) rfl ?_
          refine p_nil (x_then (s_plain ?_))
          refine p_val (e_move (v := .slice _ _ _) rfl) rfl ?_
          refine p_val (e_move (v := .slice _ _ _) rfl) rfl ?_
          refine p_val (e_move (v := .int _ _) rfl) rfl ?_
          refine p_val (e_mul64 rfl rfl (by omega)) rfl ?_
          refine p_val (e_add64 rfl rfl (by omega)) rfl ?_
          refine p_val (e_move (v := .int _ _) rfl) rfl ?_
          refine p_val (e_mul64 rfl rfl (by omega)) rfl ?_
          refine p_val (e_add64 rfl rfl (by omega)) rfl ?_
          refine p_val (e_sl_lh (64 * g + 32) (64 * g + 64) rfl rfl rfl (by omega) (by omega) (by omega) (by omega) Try.underlying33 sz5) rfl ?_
          refine p_does (d_append S 2 rfl rfl Try.underlying33 el5 rfl rfl (Rd.drop_bv (Rd.take_bv (S.rdOld R2 rfl) (by omega)) (by omega) (by omega)) (by first | exact bv_one _ | exact sv_one _ | exact iv_one _ | with_reducible assumption | (refine One.mem ?_; repeat (first | exact One.bv _ | exact One.sv _ | exact One.iv _ | exact One.nil | exact One.cat0 | refine One.cat1 ?_ ?_ | refine One.cons rfl ?_ | refine One.append ?_ ?_))) (by omega) (by unfold maxLen; omega)) rfl ?_
          rintro _ w ⟨k73, c73, rfl, S⟩
          refine p_val (e_assign (v := .slice _ _ _) rfl) rfl ?_
          refine p_nil (x_in ?_)
          exact x_then ⟨_, rfl, _, _, _, _, _, upds_eq ⟨rfl, rfl, rfl, rfl, rfl, rfl, rfl, trivial⟩, by first | omega | rfl | with_reducible assumption | (simp; done) | (simp; omega), by rw [half_eq, oth_eq, ← bv_append, ← bv_append]; conv => rhs; unfold backB; rw [if_pos (show lbit (ldig (l.take (min n 200))) g = 0 by omega), ← List.append_assoc], S.pk [2, 3, 4] rfl⟩
        · refine s_seq (s_plain ?_)
          refine p_val (e_move (v := .slice _ _ _) rfl) rfl ?_
          refine p_val (e_move (v := .slice _ _ _) rfl) rfl ?_
          refine p_val (e_move (v := .int _ _) rfl) rfl ?_
          refine p_val (e_mul64 rfl rfl (by omega)) rfl ?_
          refine p_val (e_add64 rfl rfl (by omega)) rfl ?_
          refine p_val (e_move (v := .int _ _) rfl) rfl ?_
          refine p_val (e_mul64 rfl rfl (by omega)) rfl ?_
          refine p_val (e_add64 rfl rfl (by omega)) rfl ?_
          refine p_val (e_sl_lh (64 * g + 32) (64 * g + 64) rfl rfl rfl (by omega) (by omega) (by omega) (by omega) Try.underlying33 sz5) rfl ?_
          refine p_does (d_append S 2 rfl rfl Try.underlying33 el5 rfl rfl (Rd.drop_bv (Rd.take_bv (S.rdOld R2 rfl) (by omega)) (by omega) (by omega)) (by first | exact bv_one _ | exact sv_one _ | exact iv_one _ | with_reducible assumption | (refine One.mem ?_; repeat (first | exact One.bv _ | exact One.sv _ | exact One.iv _ | exact One.nil | exact One.cat0 | refine One.cat1 ?_ ?_ | refine One.cons rfl ?_ | refine One.append ?_ ?_))) (by omega) (by unfold maxLen; omega)) rfl ?_
          rintro _ w ⟨k83, c83, rfl, S⟩
          refine p_val (e_assign (v := .slice _ _ _) rfl) rfl ?_
          refine p_nil (x_then (s_plain ?_))
          refine p_val (e_move (v := .slice _ _ _) rfl) rfl ?_
          refine p_val (e_sl_arr rfl Try.underlying29 sz5) rfl ?_
          refine p_does (d_append S 2 rfl rfl Try.underlying33 el5 rfl rfl (S.rdBytes 0 rfl rfl (by first | with_reducible assumption | (simp [cat, length_lbk, length_lback, length_lshown, length_join, length_ldig, length_zsum, hk]; done) | (simp [cat, length_lbk, length_lback, length_lshown, length_join, length_ldig, length_zsum, hk]; omega) | rfl)) (by first | exact bv_one _ | exact sv_one _ | exact iv_one _ | with_reducible assumption | (refine One.mem ?_; repeat (first | exact One.bv _ | exact One.sv _ | exact One.iv _ | exact One.nil | exact One.cat0 | refine One.cat1 ?_ ?_ | refine One.cons rfl ?_ | refine One.append ?_ ?_))) (by omega) (by unfold maxLen; omega)) rfl ?_
          rintro _ w ⟨k86, c86, rfl, S⟩
          refine p_val (e_assign (v := .slice _ _ _) rfl) rfl ?_
          refine p_nil (x_in ?_)
          exact x_then ⟨_, rfl, _, _, _, _, _, upds_eq ⟨rfl, rfl, rfl, rfl, rfl, rfl, rfl, trivial⟩, by first | omega | rfl | with_reducible assumption | (simp; done) | (simp; omega), by rw [half_eq, oth_eq, ← bv_append, ← bv_append]; conv => rhs; unfold backB; rw [if_neg (show ¬ lbit (ldig (l.take (min n 200))) g = 0 by omega), ← List.append_assoc], S.pk [2, 3, 4] rfl⟩
      · rintro f w ⟨u, Kk9, Ck9, m, xs, rfl, rfl, rfl, S⟩
        refine x_then (s_plain ?_)
        refine p_val (e_move (v := .int _ _) rfl) rfl ?_
        refine p_val (e_add64 rfl rfl (by omega)) rfl ?_
        refine p_val (e_assign (v := .int _ _) rfl) rfl ?_
        refine p_nil ?_
        refine x_round (g + 1) _ rfl ⟨_, _, _, _, _, upds_eq ⟨rfl, rfl, rfl, rfl, rfl, rfl, rfl, trivial⟩, by first | omega | rfl | with_reducible assumption | (simp; done) | (simp; omega), by first | omega | rfl | with_reducible assumption | (simp; done) | (simp; omega), by first | omega | rfl | with_reducible assumption | (simp; done) | (simp; omega), S⟩ (by omega)
    · refine s_exit (x_then_exit (x_then_exit (x_in_same (x_then (s_seq (s_plain ?_))))))
      obtain rfl : g = 64 := by omega
      have hbl := length_backB (d := ldig (l.take (min n 200))) hg2 64 (Nat.le_refl _)
      refine p_val (e_move (v := .slice _ _ _) rfl) rfl ?_
      refine p_does (d_lit1 S Try.underlying90 sz33 zv33 rfl (vs := [.slice _ _ _]) rfl rfl rfl (by decide)) rfl ?_
      rintro _ w ⟨b88, rfl, S⟩
      refine p_does (d_call Try.func19 nm19 rfl rfl (Ret.mono (R' := fun v w' => v = .agg (bv (lback (l.take (min n 200)) g2)).toArray ∧ Below _ _ w') (join_calls _ 13 _ _ [_] (Parts.one (S.rdRw 0 rfl rfl) (S.rdRw 1 rfl rfl)) (by simp [joinB, len4, hbl]) (by simp)) (fun v w' ⟨hv, hB⟩ => ⟨by rw [hv]; unfold lback; rfl, hB⟩))) rfl ?_
      rintro _ w ⟨rfl, hB⟩
      have S := S.below hB
      refine p_does (d_allocA S zvS) rfl ?_
      rintro _ w ⟨b13, rfl, S⟩
      refine p_does (d_storeW S 0 rfl rfl (by first | exact bv_one _ | exact sv_one _ | exact iv_one _ | with_reducible assumption | (refine One.mem ?_; repeat (first | exact One.bv _ | exact One.sv _ | exact One.iv _ | exact One.nil | exact One.cat0 | refine One.cat1 ?_ ?_ | refine One.cons rfl ?_ | refine One.append ?_ ?_))) sz29 (by first | with_reducible assumption | (simp [cat, length_lbk, length_lback, length_lshown, length_join, length_ldig, length_zsum, hk]; done) | (simp [cat, length_lbk, length_lback, length_lshown, length_join, length_ldig, length_zsum, hk]; omega) | rfl) rfl rfl (by first | with_reducible assumption | (simp [cat, length_lbk, length_lback, length_lshown, length_join, length_ldig, length_zsum, hk]; done) | (simp [cat, length_lbk, length_lback, length_lshown, length_join, length_ldig, length_zsum, hk]; omega) | rfl)) rfl ?_
      intro _ w S
      refine p_nil (x_then (s_seq ?_))
      refine s_cutK (ks := [some b13, some b88, Kk9, some b7, some b5]) (ps := [Ex _ _, Rw _ _ _ _ _, Rw _ _ _ _ _, Ex _ _, Ex _ _]) [] trivial S (fun keep ks ps f' w' => ∃ u bb, f' = upds u ((6, .bool bb) :: keep) ∧ (bb = true ↔ True) ∧ St w0 w' [] ks ps) ?_ ?_
      · refine s_drawK (ks := [some b13, some b88, Kk9, some b7, some b5]) (ps := [Ex _ _, Rw _ _ _ _ _, Rw _ _ _ _ _, Ex _ _, Ex _ _]) S [(true, 0), (true, 1), (true, 2), (true, 3), (true, 4), (true, 5), (true, 6), (true, 7), (true, 8), (true, 9), (true, 10), (true, 12), (true, 13), (true, 14), (false, 11), (true, 15), (true, 16), (true, 17), (false, 18), (true, 19)] [20] [20] mixed (by kernel_rfl) (by repeat (first | exact Calm.post _ _ _ | refine Calm.then ?_ _ | refine Calm.inB ?_ _)) (fun hS => ?_)
        have S := S.drew
        refine q_val (fun w hS => e_loadW 3 rfl ag29 sz29 hS rfl rfl (by first | with_reducible assumption | (simp [cat, length_lbk, length_lback, length_lshown, length_join, length_ldig, length_zsum, hk]; done) | (simp [cat, length_lbk, length_lback, length_lshown, length_join, length_ldig, length_zsum, hk]; omega) | rfl)) rfl hS ?_
        refine q_val (fun w hS => e_loadW 0 rfl ag29 sz29 hS rfl rfl (by first | with_reducible assumption | (simp [cat, length_lbk, length_lback, length_lshown, length_join, length_ldig, length_zsum, hk]; done) | (simp [cat, length_lbk, length_lback, length_lshown, length_join, length_ldig, length_zsum, hk]; omega) | rfl)) rfl hS ?_
        refine q_valB (fun w hS => EqT.sum eq29 gd29 rfl rfl (by first | with_reducible assumption | (simp [cat, length_lbk, length_lback, length_lshown, length_join, length_ldig, length_zsum, hk]; done) | (simp [cat, length_lbk, length_lback, length_lshown, length_join, length_ldig, length_zsum, hk]; omega) | rfl) (by first | with_reducible assumption | (simp [cat, length_lbk, length_lback, length_lshown, length_join, length_ldig, length_zsum, hk]; done) | (simp [cat, length_lbk, length_lback, length_lshown, length_join, length_ldig, length_zsum, hk]; omega) | rfl)) rfl hS (fun hg92 => ?_) (fun hg92 => ?_)
        · refine q_val (fun w hS => e_move (v := .bool _) rfl) rfl hS ?_
          refine qg_val rfl rfl rfl rfl rfl (fun w hS => e_move (v := .int _ _) rfl) hS ?_
          refine qg_valB rfl rfl rfl rfl rfl (fun w hS => e_eql rfl rfl) hS (fun hg95 => ?_) (fun hg95 => ?_)
          · refine q_val (fun w hS => e_pick_t rfl rfl) rfl hS ?_
            refine q_val (fun w hS => e_move (v := .bool _) rfl) rfl hS ?_
            refine qg_val rfl rfl rfl rfl rfl (fun w hS => e_loadW 4 rfl ag29 sz29 hS rfl rfl (by first | with_reducible assumption | (simp [cat, length_lbk, length_lback, length_lshown, length_join, length_ldig, length_zsum, hk]; done) | (simp [cat, length_lbk, length_lback, length_lshown, length_join, length_ldig, length_zsum, hk]; omega) | rfl)) hS ?_
            refine qg_val rfl rfl rfl rfl rfl (fun w hS => e_move (v := .slice _ _ _) rfl) hS ?_
            refine qg_val rfl rfl rfl rfl rfl (fun w hS => e_move (v := .slice _ _ _) rfl) hS ?_
            refine qg_val rfl rfl rfl rfl rfl (fun w hS => e_loadW 4 rfl ag29 sz29 hS rfl rfl (by first | with_reducible assumption | (simp [cat, length_lbk, length_lback, length_lshown, length_join, length_ldig, length_zsum, hk]; done) | (simp [cat, length_lbk, length_lback, length_lshown, length_join, length_ldig, length_zsum, hk]; omega) | rfl)) hS ?_
            refine qg_val rfl rfl rfl rfl rfl (fun w hS => e_loadW 0 rfl ag29 sz29 hS rfl rfl (by first | with_reducible assumption | (simp [cat, length_lbk, length_lback, length_lshown, length_join, length_ldig, length_zsum, hk]; done) | (simp [cat, length_lbk, length_lback, length_lshown, length_join, length_ldig, length_zsum, hk]; omega) | rfl)) hS ?_
            refine qg_val rfl rfl rfl rfl rfl (fun w hS => EqT.sum eq29 gd29 rfl rfl (by first | with_reducible assumption | (simp [cat, length_lbk, length_lback, length_lshown, length_join, length_ldig, length_zsum, hk]; done) | (simp [cat, length_lbk, length_lback, length_lshown, length_join, length_ldig, length_zsum, hk]; omega) | rfl) (by first | with_reducible assumption | (simp [cat, length_lbk, length_lback, length_lshown, length_join, length_ldig, length_zsum, hk]; done) | (simp [cat, length_lbk, length_lback, length_lshown, length_join, length_ldig, length_zsum, hk]; omega) | rfl)) hS ?_
            refine qg_does rfl rfl rfl rfl rfl (d_call Try.func32 nm32 rfl rfl (verify_gen _ _ _ _ _ _ _ _ _ _ (by first | with_reducible assumption | (simp [cat, length_lbk, length_lback, length_lshown, length_join, length_ldig, length_zsum, hk]; done) | (simp [cat, length_lbk, length_lback, length_lshown, length_join, length_ldig, length_zsum, hk]; omega) | rfl) (Rd.take_bv (S.rdOld R rfl) (Nat.min_le_left n 200)) (by omega) (S.rdOld R2 rfl) (by omega))) ?_
            rintro _ w ⟨rfl, hB⟩
            have S := S.below hB
            have hS := S.pk [0, 1, 2, 3, 4] rfl
            refine ⟨hS, ?_⟩
            refine qg_valb rfl rfl rfl rfl rfl (fun w hS => e_eqlB rfl rfl Try.underlying4) hS (fun hg105 => ?_) (fun hg105 => ?_)
            · refine q_val (fun w hS => e_pick_t rfl rfl) rfl hS ?_
              refine q_val (fun w hS => e_move (v := .bool _) rfl) rfl hS ?_
              refine qg_does rfl rfl rfl rfl rfl (d_call Try.func34 nm34 rfl rfl (l4awake_calls _)) ?_
              rintro _ w ⟨rfl, hB⟩
              have S := S.below hB
              have hS := S.pk [0, 1, 2, 3, 4] rfl
              refine ⟨hS, ?_⟩
              refine q_val (fun w hS => e_pick_t rfl rfl) rfl hS ?_
              refine q_nil ?_
              refine p_val (e_assign (v := .bool _) rfl) rfl ?_
              exact p_nil (x_then ⟨_, rfl, _, _, upds_eq ⟨rfl, trivial⟩, by first | (simp only [decide_eq_true_eq, eq_self, true_iff, iff_true, iff_false, Bool.false_eq_true, false_iff, ge_iff_le, gt_iff_lt, true_and, and_true, false_and, and_false, true_or, or_true, false_or, or_false, not_true_eq_false, not_false_eq_true]; omega) | simp | omega | simp_all, S⟩)
            · exact False.elim (dec_ne ⟨fun h => h.2.symm, fun h => ⟨rfl, h.symm⟩⟩ hg105)
          · exact False.elim (hg95 rfl)
        · exact False.elim (hg92 (if_pos rfl))
      · rintro f w ⟨u, b6, rfl, hb6, S⟩
        refine x_then (s_ret ?_)
        exact post1 (v := .bool _) Try.results5 rfl (⟨by rw [hb6.2 trivial], S.to_below⟩)
end Go.Proofs.Ytdhfiamgmokfbaa
