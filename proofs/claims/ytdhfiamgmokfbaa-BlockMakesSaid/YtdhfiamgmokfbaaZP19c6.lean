/- Own texts, one behind the other: walks and laws that the statement needs. They prove no statement by themselves. -/
import Derived.Test.YtdhfiamgmokfbaaZP19c5
import Derived.Test.YtdhfiamgmokfbaaZP19c2
import Derived.Test.YtdhfiamgmokfbaaZP19c4
/- Chapter 19's law on blocks that are made. It proves no statement by itself. -/
set_option linter.unusedSimpArgs false
set_option linter.unusedVariables false
set_option maxRecDepth 100000
set_option maxHeartbeats 2000000
namespace Go.Proofs.Ytdhfiamgmokfbaa
open Go Go.RowKit E
attribute [local irreducible] wpList seqH treeH
theorem eqHead (r q : HeadV) (hr : r.ok) (hq : q.ok) : EqV Try.prog 3 66 (.agg (cat (headC r)).toArray) (.agg (cat (headC q)).toArray) (r = q) :=
  (EqV.struct (j := 2) Try.underlying66 (by kernel_rfl)
    (eqf_cons rfl (fun w => run_partA (a := 0) w ag29 sz29 rfl rfl (by simp [hr.1])) (fun w => run_partA (a := 0) w ag29 sz29 rfl rfl (by simp [hq.1])) (EqV.sum eq29 hr.1 hq.1)
    (eqf_cons rfl (fun w => run_part1 (a := 1) w ag3 rfl (by simp [headC, hr.1])) (fun w => run_part1 (a := 1) w ag3 rfl (by simp [headC, hq.1])) ((EqV.int Try.underlying3).more 1)
    (eqf_cons rfl (fun w => run_partA (a := 2) w ag29 sz29 rfl (by simp [headC, hr.1]) (by simp [hr.2])) (fun w => run_partA (a := 2) w ag29 sz29 rfl (by simp [headC, hq.1]) (by simp [hq.2])) (EqV.sum eq29 hr.2 hq.2)
    (eqf_cons rfl (fun w => run_part1 (a := 3) w ag3 rfl (by simp [headC, hr.1, hr.2])) (fun w => run_part1 (a := 3) w ag3 rfl (by simp [headC, hq.1, hq.2])) ((EqV.int Try.underlying3).more 1) eqf_nil))))).iff
    (by obtain ⟨a, b, c, d⟩ := r; obtain ⟨a', b', c', d'⟩ := q; simp)
noncomputable instance : DecidableEq HeadV := fun r q => Classical.propDecidable _
theorem bmakes_calls (w0 : World) (h : HeadV) (hk : h.ok) (L : Sl TxV) (hL : TxsOk w0 [] L) :
    Ret Try.prog 12 [.agg (cat (headC h)).toArray, .slice L.A L.n L.c] w0 fun v w' => v = .bool true ∧ Below w0.heap.size w0 w' := by
  refine enter Try.func12 rfl Try.ntmps12 (Nat.le_of_ble_eq_true rfl) ?_
  have S := St.init w0
  have k1 := hk.1
  have k2 := hk.2
  obtain ⟨i1, i2, i3, R, oR⟩ := id hL
  have hal := txsums_all L.xs
  have hln : (L.xs.map txsum).length = L.n := by rw [List.length_map]; exact hL.1
  refine s_seq (s_plain ?_)
  refine p_does (d_boxA S rfl) rfl ?_
  rintro _ w ⟨b2, rfl, S⟩
  refine p_val (e_assign (v := .bool _) rfl) rfl ?_
  refine p_nil (x_then (s_seq (s_seq (s_plain ?_))))
  refine p_val (e_move (v := .slice _ _ _) rfl) rfl ?_
  refine p_does (d_call Try.func48 nm48 rfl rfl (l19small _ L (hL.carry (S.carry0)))) rfl ?_
  rintro _ w ⟨rfl, hB⟩
  have S := S.below hB
  refine p_val (e_not rfl) rfl ?_
  refine p_nil (x_then ?_)
  refine s_condb rfl (fun hc13 => ?_) (fun hc13 => ?_)
  · refine s_seq (s_plain ?_)
    refine p_does (d_call Try.func49 nm49 rfl rfl (l19awake _)) rfl ?_
    rintro _ w ⟨rfl, hB⟩
    have S := S.below hB
    refine p_val (e_assign (v := .bool _) rfl) rfl ?_
    refine p_nil (x_then (s_ret (x_then_ret ?_)))
    exact post1 (v := .bool _) Try.results12 rfl (⟨rfl, S.to_below⟩)
  · have hsm : TxsSm L := by simpa using hc13
    have hs20 := hsm.1
    have hxl := mkX_len (h := h) hL.1
    refine s_skip (x_then (s_seq (s_plain ?_)))
    refine p_val (e_loadW 0 rfl ag66 sz66 S rfl rfl (by first | with_reducible assumption | (rw [bv_length]; with_reducible assumption) | (rw [List.size_toArray, bv_length]; with_reducible assumption) | (simp [cat, Value.cells, blkC, headC, hk.1, hk.2, (mkH_ok h L).1, (mkH_ok h L).2, length_mroot, length_hsum, length_txsum, length_zsum, zc69, zc66]; done) | (simp [cat, Value.cells, blkC, headC, hk.1, hk.2, (mkH_ok h L).1, (mkH_ok h L).2, length_mroot, length_hsum, length_txsum, length_zsum, zc69, zc66]; omega) | rfl)) rfl ?_
    refine p_val (e_move (v := .slice _ _ _) rfl) rfl ?_
    refine p_does (d_call Try.func52 nm52 rfl rfl (bk_make _ h hk L (hL.carry (S.carry0)) (by omega) hsm.2)) rfl ?_
    rintro _ w ⟨k18, c18, rfl, T⟩
    have S := S.merge T rfl
    refine p_val (e_move (v := .tuple _) rfl) rfl ?_
    refine p_val (e_extract rfl rfl) rfl ?_
    refine p_val (e_extract rfl rfl) rfl ?_
    refine p_does (d_allocA S zs69) rfl ?_
    rintro _ w ⟨b5, rfl, S⟩
    refine p_does (d_storeW S 0 rfl rfl (by first | exact bv_one _ | exact sv_one _ | exact iv_one _ | with_reducible assumption | (refine One.mem ?_; repeat (first | exact One.bv _ | exact One.sv _ | exact One.iv _ | exact One.nil | exact One.cat0 | refine One.cat1 ?_ ?_ | refine One.cons rfl ?_ | refine One.append ?_ ?_))) sz69 (by first | with_reducible assumption | (rw [bv_length]; with_reducible assumption) | (rw [List.size_toArray, bv_length]; with_reducible assumption) | (simp [cat, Value.cells, blkC, headC, hk.1, hk.2, (mkH_ok h L).1, (mkH_ok h L).2, length_mroot, length_hsum, length_txsum, length_zsum, zc69, zc66]; done) | (simp [cat, Value.cells, blkC, headC, hk.1, hk.2, (mkH_ok h L).1, (mkH_ok h L).2, length_mroot, length_hsum, length_txsum, length_zsum, zc69, zc66]; omega) | rfl) rfl rfl (by first | with_reducible assumption | (rw [bv_length]; with_reducible assumption) | (rw [List.size_toArray, bv_length]; with_reducible assumption) | (simp [cat, Value.cells, blkC, headC, hk.1, hk.2, (mkH_ok h L).1, (mkH_ok h L).2, length_mroot, length_hsum, length_txsum, length_zsum, zc69, zc66]; done) | (simp [cat, Value.cells, blkC, headC, hk.1, hk.2, (mkH_ok h L).1, (mkH_ok h L).2, length_mroot, length_hsum, length_txsum, length_zsum, zc69, zc66]; omega) | rfl)) rfl ?_
    intro _ w S
    refine p_val (e_assign (v := .int _ _) rfl) rfl ?_
    refine p_nil (x_then (s_seq (s_seq ?_)))
    refine s_drawK (ks := [some b5, k18, some b2]) (ps := [Ex _ _, Rw _ _ _ _ _, Ex _ _]) S [(true, 0), (true, 2), (false, 1), (false, 3), (true, 4)] [] [] mixed (by kernel_rfl) (by repeat (first | exact Calm.post _ _ _ | refine Calm.then ?_ _ | refine Calm.inB ?_ _)) (fun hS => ?_)
    have S := S.drew
    refine q_val (fun w hS => e_loadW 2 rfl ag66 sz66 hS rfl rfl (by first | with_reducible assumption | (rw [bv_length]; with_reducible assumption) | (rw [List.size_toArray, bv_length]; with_reducible assumption) | (simp [cat, Value.cells, blkC, headC, hk.1, hk.2, (mkH_ok h L).1, (mkH_ok h L).2, length_mroot, length_hsum, length_txsum, length_zsum, zc69, zc66]; done) | (simp [cat, Value.cells, blkC, headC, hk.1, hk.2, (mkH_ok h L).1, (mkH_ok h L).2, length_mroot, length_hsum, length_txsum, length_zsum, zc69, zc66]; omega) | rfl)) rfl hS ?_
    refine q_val (fun w hS => e_loadW 2 rfl ag66 sz66 hS rfl rfl (by first | with_reducible assumption | (rw [bv_length]; with_reducible assumption) | (rw [List.size_toArray, bv_length]; with_reducible assumption) | (simp [cat, Value.cells, blkC, headC, hk.1, hk.2, (mkH_ok h L).1, (mkH_ok h L).2, length_mroot, length_hsum, length_txsum, length_zsum, zc69, zc66]; done) | (simp [cat, Value.cells, blkC, headC, hk.1, hk.2, (mkH_ok h L).1, (mkH_ok h L).2, length_mroot, length_hsum, length_txsum, length_zsum, zc69, zc66]; omega) | rfl)) rfl hS ?_
    refine q_does (d_call Try.func53 nm53 rfl rfl (bh_sum _ h hk)) rfl ?_
    rintro _ w ⟨rfl, hB⟩
    have S := S.below hB
    have hS := S.pk [0, 1, 2] rfl
    refine ⟨hS, ?_⟩
    refine q_does (d_call Try.func54 nm54 rfl rfl (l19head _ h hk)) rfl ?_
    rintro _ w ⟨rfl, hB⟩
    have S := S.below hB
    have hS := S.pk [0, 1, 2] rfl
    refine ⟨hS, ?_⟩
    refine q_val (fun w hS => EqT.sumN eq29 gd29 rfl rfl (by first | with_reducible assumption | (rw [bv_length]; with_reducible assumption) | (rw [List.size_toArray, bv_length]; with_reducible assumption) | (simp [cat, Value.cells, blkC, headC, hk.1, hk.2, (mkH_ok h L).1, (mkH_ok h L).2, length_mroot, length_hsum, length_txsum, length_zsum, zc69, zc66]; done) | (simp [cat, Value.cells, blkC, headC, hk.1, hk.2, (mkH_ok h L).1, (mkH_ok h L).2, length_mroot, length_hsum, length_txsum, length_zsum, zc69, zc66]; omega) | rfl) (by first | with_reducible assumption | (rw [bv_length]; with_reducible assumption) | (rw [List.size_toArray, bv_length]; with_reducible assumption) | (simp [cat, Value.cells, blkC, headC, hk.1, hk.2, (mkH_ok h L).1, (mkH_ok h L).2, length_mroot, length_hsum, length_txsum, length_zsum, zc69, zc66]; done) | (simp [cat, Value.cells, blkC, headC, hk.1, hk.2, (mkH_ok h L).1, (mkH_ok h L).2, length_mroot, length_hsum, length_txsum, length_zsum, zc69, zc66]; omega) | rfl)) rfl hS ?_
    refine q_nil (p_nil (x_then ?_))
    refine s_cond rfl (fun hc25 => ?_) (fun hc25 => ?_)
    · exact False.elim (hc25 rfl)
    · refine s_skip (x_then (s_seq (s_seq ?_)))
      refine s_cutK (ks := [some b5, k18, some b2]) (ps := [Ex _ _, Rw _ _ _ _ _, Ex _ _]) [(1, .slice _ _ _), (2, .pointer _), (5, .pointer _), (6, .int _ _)] ⟨rfl, rfl, rfl, rfl, trivial⟩ S (fun keep ks ps f' w' => ∃ u bb, f' = upds u ((33, .bool bb) :: keep) ∧ (bb = true ↔ (h.height < 0 ∨ 1073741823 < h.height)) ∧ St w0 w' [] ks ps) ?_ ?_
      · refine s_plain ?_
        refine p_val (e_field rfl Try.underlying66 rfl sz3 (by decide)) rfl ?_
        refine p_val (e_loadF1 (i := 1) (off := 32) rfl ag3 S (j := 2) rfl rfl rfl (by first | with_reducible assumption | (rw [bv_length]; with_reducible assumption) | (rw [List.size_toArray, bv_length]; with_reducible assumption) | (simp [cat, Value.cells, blkC, headC, hk.1, hk.2, (mkH_ok h L).1, (mkH_ok h L).2, length_mroot, length_hsum, length_txsum, length_zsum, zc69, zc66]; done) | (simp [cat, Value.cells, blkC, headC, hk.1, hk.2, (mkH_ok h L).1, (mkH_ok h L).2, length_mroot, length_hsum, length_txsum, length_zsum, zc69, zc66]; omega) | rfl)) rfl ?_
        refine p_valB (e_lss rfl rfl) rfl (fun hg28 => ?_) (fun hg28 => ?_)
        · refine p_val (e_move (v := .bool _) rfl) rfl ?_
          refine p_no rfl rfl rfl rfl rfl ?_
          refine p_no rfl rfl rfl rfl rfl ?_
          refine p_no rfl rfl rfl rfl rfl ?_
          refine p_val (e_pick_t rfl rfl) rfl ?_
          exact p_nil (x_then ⟨_, rfl, _, _, upds_eq ⟨rfl, rfl, rfl, rfl, rfl, trivial⟩, by first | (simp only [decide_eq_true_eq, eq_self, true_iff, iff_true, iff_false, Bool.false_eq_true, false_iff, ge_iff_le, gt_iff_lt, true_and, and_true, false_and, and_false, true_or, or_true, false_or, or_false, not_true_eq_false, not_false_eq_true]; omega) | (simp; done) | omega | (simp_all; done), S⟩)
        · refine p_val (e_move (v := .bool _) rfl) rfl ?_
          refine pg_val rfl rfl rfl rfl rfl (e_field rfl Try.underlying66 rfl sz3 (by decide)) ?_
          refine pg_val rfl rfl rfl rfl rfl (e_loadF1 (i := 1) (off := 32) rfl ag3 S (j := 2) rfl rfl rfl (by first | with_reducible assumption | (rw [bv_length]; with_reducible assumption) | (rw [List.size_toArray, bv_length]; with_reducible assumption) | (simp [cat, Value.cells, blkC, headC, hk.1, hk.2, (mkH_ok h L).1, (mkH_ok h L).2, length_mroot, length_hsum, length_txsum, length_zsum, zc69, zc66]; done) | (simp [cat, Value.cells, blkC, headC, hk.1, hk.2, (mkH_ok h L).1, (mkH_ok h L).2, length_mroot, length_hsum, length_txsum, length_zsum, zc69, zc66]; omega) | rfl)) ?_
          refine pg_val rfl rfl rfl rfl rfl (e_gtr rfl rfl) ?_
          refine p_val (e_pick_f rfl rfl) rfl ?_
          exact p_nil (x_then ⟨_, rfl, _, _, upds_eq ⟨rfl, rfl, rfl, rfl, rfl, trivial⟩, by first | (simp only [decide_eq_true_eq, eq_self, true_iff, iff_true, iff_false, Bool.false_eq_true, false_iff, ge_iff_le, gt_iff_lt, true_and, and_true, false_and, and_false, true_or, or_true, false_or, or_false, not_true_eq_false, not_false_eq_true]; omega) | (simp; done) | omega | (simp_all; done), S⟩)
      · rintro f w ⟨u, b33, rfl, hb33, S⟩
        refine x_then ?_
        refine s_condb rfl (fun hc33 => ?_) (fun hc33 => ?_)
        · have hp33 : (h.height < 0 ∨ 1073741823 < h.height) := hb33.1 hc33
          have e : mkE h L.n = 5 := if_pos (by omega)
          have eX : (mkX h L).length = 0 := by unfold mkX; rw [if_neg (by rw [e]; decide)]; rfl
          have eH : mkH h L = head0 := if_neg (by rw [e]; decide)
          refine s_seq ?_
          refine s_cutK (ks := [some b5, k18, some b2]) (ps := [Ex _ _, Rw _ _ _ _ _, Ex _ _]) [] trivial S (fun keep ks ps f' w' => ∃ u bb, f' = upds u ((4, .bool bb) :: keep) ∧ (bb = true ↔ True) ∧ St w0 w' [] ks ps) ?_ ?_
          · refine s_plain ?_
            refine p_val (e_field rfl Try.underlying69 rfl sz67 (by decide)) rfl ?_
            refine p_val (e_loadF1 (i := 4) (off := 66) rfl ag67 S (j := 0) rfl rfl rfl (by first | with_reducible assumption | (rw [bv_length]; with_reducible assumption) | (rw [List.size_toArray, bv_length]; with_reducible assumption) | (simp [cat, Value.cells, blkC, headC, hk.1, hk.2, (mkH_ok h L).1, (mkH_ok h L).2, length_mroot, length_hsum, length_txsum, length_zsum, zc69, zc66]; done) | (simp [cat, Value.cells, blkC, headC, hk.1, hk.2, (mkH_ok h L).1, (mkH_ok h L).2, length_mroot, length_hsum, length_txsum, length_zsum, zc69, zc66]; omega) | rfl)) rfl ?_
            refine p_val (e_len rfl Try.underlying67) rfl ?_
            refine p_valB (e_eql rfl rfl) rfl (fun hg37 => ?_) (fun hg37 => ?_)
            · refine p_val (e_move (v := .bool _) rfl) rfl ?_
              refine pg_val rfl rfl rfl rfl rfl (e_move (v := .int _ _) rfl) ?_
              refine pg_valB rfl rfl rfl rfl rfl (e_eql rfl rfl) (fun hg40 => ?_) (fun hg40 => ?_)
              · refine p_val (e_pick_t rfl rfl) rfl ?_
                refine p_val (e_move (v := .bool _) rfl) rfl ?_
                refine pg_val rfl rfl rfl rfl rfl (e_field rfl Try.underlying69 rfl sz66 (by decide)) ?_
                refine pg_val rfl rfl rfl rfl rfl (e_loadFS (i := 0) (n := 4) (off := 0) rfl ag66 sz66 (by decide) S (j := 0) rfl rfl (by first | with_reducible assumption | (rw [bv_length]; with_reducible assumption) | (rw [List.size_toArray, bv_length]; with_reducible assumption) | (simp [cat, Value.cells, blkC, headC, hk.1, hk.2, (mkH_ok h L).1, (mkH_ok h L).2, length_mroot, length_hsum, length_txsum, length_zsum, zc69, zc66]; done) | (simp [cat, Value.cells, blkC, headC, hk.1, hk.2, (mkH_ok h L).1, (mkH_ok h L).2, length_mroot, length_hsum, length_txsum, length_zsum, zc69, zc66]; omega) | rfl) (by first | with_reducible assumption | (rw [bv_length]; with_reducible assumption) | (rw [List.size_toArray, bv_length]; with_reducible assumption) | (simp [cat, Value.cells, blkC, headC, hk.1, hk.2, (mkH_ok h L).1, (mkH_ok h L).2, length_mroot, length_hsum, length_txsum, length_zsum, zc69, zc66]; done) | (simp [cat, Value.cells, blkC, headC, hk.1, hk.2, (mkH_ok h L).1, (mkH_ok h L).2, length_mroot, length_hsum, length_txsum, length_zsum, zc69, zc66]; omega) | rfl)) ?_
                refine pg_val rfl rfl rfl rfl rfl (e_buildS0 bt66) ?_
                refine pg_valB rfl rfl rfl rfl rfl (e_eqlV (eqHead (mkH h L) head0 (mkH_ok _ _) head0_ok) (by decide) gd66 rfl rfl) (fun hg46 => ?_) (fun hg46 => ?_)
                · refine p_val (e_pick_t rfl rfl) rfl ?_
                  refine p_val (e_move (v := .bool _) rfl) rfl ?_
                  refine pg_does rfl rfl rfl rfl rfl (d_call Try.func49 nm49 rfl rfl (l19awake _)) ?_
                  rintro _ w ⟨rfl, hB⟩
                  have S := S.below hB
                  refine p_val (e_pick_t rfl rfl) rfl ?_
                  refine p_val (e_assign (v := .bool _) rfl) rfl ?_
                  exact p_nil (x_then ⟨_, rfl, _, _, upds_eq ⟨rfl, trivial⟩, by first | (simp only [decide_eq_true_eq, eq_self, true_iff, iff_true, iff_false, Bool.false_eq_true, false_iff, ge_iff_le, gt_iff_lt, true_and, and_true, false_and, and_false, true_or, or_true, false_or, or_false, not_true_eq_false, not_false_eq_true]; omega) | (simp; done) | omega | (simp_all; done), S⟩)
                · exact False.elim (hg46 eH)
              · exact False.elim (hg40 e)
            · exact False.elim (hg37 (by rw [eX]; rfl))
          · rintro f w ⟨u, b4, rfl, hb4, S⟩
            refine x_then (s_ret (x_then_ret ?_))
            exact post1 (v := .bool _) Try.results12 rfl (by rw [hb4.2 trivial]; exact ⟨rfl, S.to_below⟩)
        · have hp33 : ¬ (h.height < 0 ∨ 1073741823 < h.height) := fun h => by rw [hb33.2 h] at hc33; cases hc33
          have e : mkE h L.n = 0 := (if_neg (by omega)).trans (if_neg (by omega))
          have eX : mkX h L = L.xs := if_pos e
          have eH : mkH h L = ⟨hsum h, h.height + 1, mroot (L.xs.map txsum), L.n⟩ := if_pos e
          refine s_skip (x_then (s_seq (s_plain ?_)))
          refine p_val (e_move (v := .slice _ _ _) rfl) rfl ?_
          refine p_does (d_call Try.func50 nm50 rfl rfl (l19sums _ L (hL.carry (S.carry0)) (by omega) hsm.2)) rfl ?_
          rintro _ w ⟨k52, c52, rfl, T⟩
          have S := S.merge T rfl
          refine p_val (e_assign (v := .slice _ _ _) rfl) rfl ?_
          refine p_nil (x_then (s_seq (s_seq ?_)))
          refine s_cutK (ks := [k52, some b5, k18, some b2]) (ps := [Rw _ _ _ _ _, Ex _ _, Rw _ _ _ _ _, Ex _ _]) [(1, .slice _ _ _), (5, .pointer _), (7, .slice _ _ _)] ⟨rfl, rfl, rfl, trivial⟩ S (fun keep ks ps f' w' => ∃ u bb, f' = upds u ((82, .bool bb) :: keep) ∧ (bb = true ↔ False) ∧ St w0 w' [] ks ps) ?_ ?_
          · refine s_drawK (ks := [k52, some b5, k18, some b2]) (ps := [Rw _ _ _ _ _, Ex _ _, Rw _ _ _ _ _, Ex _ _]) S [(true, 0), (true, 1), (true, 2), (true, 3), (true, 4), (true, 5), (true, 7), (true, 8), (true, 9), (true, 10), (true, 12), (true, 13), (false, 6), (false, 11), (true, 14), (true, 15), (true, 16), (true, 17), (true, 18), (false, 19), (true, 20), (true, 21), (true, 22), (true, 23), (true, 24), (true, 25), (true, 26), (true, 27), (true, 28), (true, 29)] [] [] mixed (by kernel_rfl) (by repeat (first | exact Calm.post _ _ _ | refine Calm.then ?_ _ | refine Calm.inB ?_ _)) (fun hS => ?_)
            have S := S.drew
            refine q_val (fun w hS => e_move (v := .int _ _) rfl) rfl hS ?_
            refine q_valB (fun w hS => e_neq rfl rfl) rfl hS (fun hg54 => ?_) (fun hg54 => ?_)
            · exact False.elim (hg54 e)
            · refine q_val (fun w hS => e_move (v := .bool _) rfl) rfl hS ?_
              refine qg_val rfl rfl rfl rfl rfl (fun w hS => e_field rfl Try.underlying69 rfl sz66 (by decide)) hS ?_
              refine qg_val rfl rfl rfl rfl rfl (fun w hS => e_loadFS (i := 0) (n := 4) (off := 0) rfl ag66 sz66 (by decide) hS (j := 1) rfl rfl (by first | with_reducible assumption | (rw [bv_length]; with_reducible assumption) | (rw [List.size_toArray, bv_length]; with_reducible assumption) | (simp [cat, Value.cells, blkC, headC, hk.1, hk.2, (mkH_ok h L).1, (mkH_ok h L).2, length_mroot, length_hsum, length_txsum, length_zsum, zc69, zc66]; done) | (simp [cat, Value.cells, blkC, headC, hk.1, hk.2, (mkH_ok h L).1, (mkH_ok h L).2, length_mroot, length_hsum, length_txsum, length_zsum, zc69, zc66]; omega) | rfl) (by first | with_reducible assumption | (rw [bv_length]; with_reducible assumption) | (rw [List.size_toArray, bv_length]; with_reducible assumption) | (simp [cat, Value.cells, blkC, headC, hk.1, hk.2, (mkH_ok h L).1, (mkH_ok h L).2, length_mroot, length_hsum, length_txsum, length_zsum, zc69, zc66]; done) | (simp [cat, Value.cells, blkC, headC, hk.1, hk.2, (mkH_ok h L).1, (mkH_ok h L).2, length_mroot, length_hsum, length_txsum, length_zsum, zc69, zc66]; omega) | rfl)) hS ?_
              refine qg_val rfl rfl rfl rfl rfl (fun w hS => e_loadW 3 rfl ag66 sz66 hS rfl rfl (by first | with_reducible assumption | (rw [bv_length]; with_reducible assumption) | (rw [List.size_toArray, bv_length]; with_reducible assumption) | (simp [cat, Value.cells, blkC, headC, hk.1, hk.2, (mkH_ok h L).1, (mkH_ok h L).2, length_mroot, length_hsum, length_txsum, length_zsum, zc69, zc66]; done) | (simp [cat, Value.cells, blkC, headC, hk.1, hk.2, (mkH_ok h L).1, (mkH_ok h L).2, length_mroot, length_hsum, length_txsum, length_zsum, zc69, zc66]; omega) | rfl)) hS ?_
              refine qg_val rfl rfl rfl rfl rfl (fun w hS => e_field rfl Try.underlying66 rfl sz3 (by decide)) hS ?_
              refine qg_val rfl rfl rfl rfl rfl (fun w hS => e_loadF1 (i := 1) (off := 32) rfl ag3 hS (j := 3) rfl rfl rfl (by first | with_reducible assumption | (rw [bv_length]; with_reducible assumption) | (rw [List.size_toArray, bv_length]; with_reducible assumption) | (simp [cat, Value.cells, blkC, headC, hk.1, hk.2, (mkH_ok h L).1, (mkH_ok h L).2, length_mroot, length_hsum, length_txsum, length_zsum, zc69, zc66]; done) | (simp [cat, Value.cells, blkC, headC, hk.1, hk.2, (mkH_ok h L).1, (mkH_ok h L).2, length_mroot, length_hsum, length_txsum, length_zsum, zc69, zc66]; omega) | rfl)) hS ?_
              refine qg_val rfl rfl rfl rfl rfl (fun w hS => e_add64 rfl rfl (by omega)) hS ?_
              refine qg_val rfl rfl rfl rfl rfl (fun w hS => e_move (v := .slice _ _ _) rfl) hS ?_
              refine qg_val rfl rfl rfl rfl rfl (fun w hS => e_move (v := .slice _ _ _) rfl) hS ?_
              refine qg_val rfl rfl rfl rfl rfl (fun w hS => e_len rfl Try.underlying67) hS ?_
              refine qg_does rfl rfl rfl rfl rfl (d_call Try.func54 nm54 rfl rfl (l19head _ h hk)) ?_
              rintro _ w ⟨rfl, hB⟩
              have S := S.below hB
              have hS := S.pk [0, 1, 2, 3] rfl
              refine ⟨hS, ?_⟩
              refine qg_does rfl rfl rfl rfl rfl (d_call Try.func42 nm42 rfl rfl (mk_root _ _ _ (L.xs.map txsum) (S.rdRw 0 rfl rfl) hal (by omega))) ?_
              rintro _ w ⟨rfl, hB⟩
              have S := S.below hB
              have hS := S.pk [0, 1, 2, 3] rfl
              refine ⟨hS, ?_⟩
              refine qg_val rfl rfl rfl rfl rfl (fun w hS => e_buildS bt66 (Eq.trans (fill_cat (v := .agg _) (l' := [_]) 0 1 rfl ((List.append_nil _).symm) (by first | with_reducible assumption | (rw [bv_length]; with_reducible assumption) | (rw [List.size_toArray, bv_length]; with_reducible assumption) | (simp [cat, Value.cells, blkC, headC, hk.1, hk.2, (mkH_ok h L).1, (mkH_ok h L).2, length_mroot, length_hsum, length_txsum, length_zsum, zc69, zc66]; done) | (simp [cat, Value.cells, blkC, headC, hk.1, hk.2, (mkH_ok h L).1, (mkH_ok h L).2, length_mroot, length_hsum, length_txsum, length_zsum, zc69, zc66]; omega) | rfl) (by first | with_reducible assumption | (rw [bv_length]; with_reducible assumption) | (rw [List.size_toArray, bv_length]; with_reducible assumption) | (simp [cat, Value.cells, blkC, headC, hk.1, hk.2, (mkH_ok h L).1, (mkH_ok h L).2, length_mroot, length_hsum, length_txsum, length_zsum, zc69, zc66]; done) | (simp [cat, Value.cells, blkC, headC, hk.1, hk.2, (mkH_ok h L).1, (mkH_ok h L).2, length_mroot, length_hsum, length_txsum, length_zsum, zc69, zc66]; omega) | rfl) (by first | with_reducible assumption | (rw [bv_length]; with_reducible assumption) | (rw [List.size_toArray, bv_length]; with_reducible assumption) | (simp [cat, Value.cells, blkC, headC, hk.1, hk.2, (mkH_ok h L).1, (mkH_ok h L).2, length_mroot, length_hsum, length_txsum, length_zsum, zc69, zc66]; done) | (simp [cat, Value.cells, blkC, headC, hk.1, hk.2, (mkH_ok h L).1, (mkH_ok h L).2, length_mroot, length_hsum, length_txsum, length_zsum, zc69, zc66]; omega) | rfl)) (Eq.trans (fill_cat (v := .int _ _) (l' := [[_]]) 1 1 rfl (rfl) (by first | with_reducible assumption | (rw [bv_length]; with_reducible assumption) | (rw [List.size_toArray, bv_length]; with_reducible assumption) | (simp [cat, Value.cells, blkC, headC, hk.1, hk.2, (mkH_ok h L).1, (mkH_ok h L).2, length_mroot, length_hsum, length_txsum, length_zsum, zc69, zc66]; done) | (simp [cat, Value.cells, blkC, headC, hk.1, hk.2, (mkH_ok h L).1, (mkH_ok h L).2, length_mroot, length_hsum, length_txsum, length_zsum, zc69, zc66]; omega) | rfl) (by first | with_reducible assumption | (rw [bv_length]; with_reducible assumption) | (rw [List.size_toArray, bv_length]; with_reducible assumption) | (simp [cat, Value.cells, blkC, headC, hk.1, hk.2, (mkH_ok h L).1, (mkH_ok h L).2, length_mroot, length_hsum, length_txsum, length_zsum, zc69, zc66]; done) | (simp [cat, Value.cells, blkC, headC, hk.1, hk.2, (mkH_ok h L).1, (mkH_ok h L).2, length_mroot, length_hsum, length_txsum, length_zsum, zc69, zc66]; omega) | rfl) (by first | with_reducible assumption | (rw [bv_length]; with_reducible assumption) | (rw [List.size_toArray, bv_length]; with_reducible assumption) | (simp [cat, Value.cells, blkC, headC, hk.1, hk.2, (mkH_ok h L).1, (mkH_ok h L).2, length_mroot, length_hsum, length_txsum, length_zsum, zc69, zc66]; done) | (simp [cat, Value.cells, blkC, headC, hk.1, hk.2, (mkH_ok h L).1, (mkH_ok h L).2, length_mroot, length_hsum, length_txsum, length_zsum, zc69, zc66]; omega) | rfl)) (Eq.trans (fill_cat (v := .agg _) (l' := [_]) 2 1 rfl ((List.append_nil _).symm) (by first | with_reducible assumption | (rw [bv_length]; with_reducible assumption) | (rw [List.size_toArray, bv_length]; with_reducible assumption) | (simp [cat, Value.cells, blkC, headC, hk.1, hk.2, (mkH_ok h L).1, (mkH_ok h L).2, length_mroot, length_hsum, length_txsum, length_zsum, zc69, zc66]; done) | (simp [cat, Value.cells, blkC, headC, hk.1, hk.2, (mkH_ok h L).1, (mkH_ok h L).2, length_mroot, length_hsum, length_txsum, length_zsum, zc69, zc66]; omega) | rfl) (by first | with_reducible assumption | (rw [bv_length]; with_reducible assumption) | (rw [List.size_toArray, bv_length]; with_reducible assumption) | (simp [cat, Value.cells, blkC, headC, hk.1, hk.2, (mkH_ok h L).1, (mkH_ok h L).2, length_mroot, length_hsum, length_txsum, length_zsum, zc69, zc66]; done) | (simp [cat, Value.cells, blkC, headC, hk.1, hk.2, (mkH_ok h L).1, (mkH_ok h L).2, length_mroot, length_hsum, length_txsum, length_zsum, zc69, zc66]; omega) | rfl) (by first | with_reducible assumption | (rw [bv_length]; with_reducible assumption) | (rw [List.size_toArray, bv_length]; with_reducible assumption) | (simp [cat, Value.cells, blkC, headC, hk.1, hk.2, (mkH_ok h L).1, (mkH_ok h L).2, length_mroot, length_hsum, length_txsum, length_zsum, zc69, zc66]; done) | (simp [cat, Value.cells, blkC, headC, hk.1, hk.2, (mkH_ok h L).1, (mkH_ok h L).2, length_mroot, length_hsum, length_txsum, length_zsum, zc69, zc66]; omega) | rfl)) (Eq.trans (fill_cat (v := .int _ _) (l' := [[_]]) 3 1 rfl (rfl) (by first | with_reducible assumption | (rw [bv_length]; with_reducible assumption) | (rw [List.size_toArray, bv_length]; with_reducible assumption) | (simp [cat, Value.cells, blkC, headC, hk.1, hk.2, (mkH_ok h L).1, (mkH_ok h L).2, length_mroot, length_hsum, length_txsum, length_zsum, zc69, zc66]; done) | (simp [cat, Value.cells, blkC, headC, hk.1, hk.2, (mkH_ok h L).1, (mkH_ok h L).2, length_mroot, length_hsum, length_txsum, length_zsum, zc69, zc66]; omega) | rfl) (by first | with_reducible assumption | (rw [bv_length]; with_reducible assumption) | (rw [List.size_toArray, bv_length]; with_reducible assumption) | (simp [cat, Value.cells, blkC, headC, hk.1, hk.2, (mkH_ok h L).1, (mkH_ok h L).2, length_mroot, length_hsum, length_txsum, length_zsum, zc69, zc66]; done) | (simp [cat, Value.cells, blkC, headC, hk.1, hk.2, (mkH_ok h L).1, (mkH_ok h L).2, length_mroot, length_hsum, length_txsum, length_zsum, zc69, zc66]; omega) | rfl) (by first | with_reducible assumption | (rw [bv_length]; with_reducible assumption) | (rw [List.size_toArray, bv_length]; with_reducible assumption) | (simp [cat, Value.cells, blkC, headC, hk.1, hk.2, (mkH_ok h L).1, (mkH_ok h L).2, length_mroot, length_hsum, length_txsum, length_zsum, zc69, zc66]; done) | (simp [cat, Value.cells, blkC, headC, hk.1, hk.2, (mkH_ok h L).1, (mkH_ok h L).2, length_mroot, length_hsum, length_txsum, length_zsum, zc69, zc66]; omega) | rfl)) rfl))))) hS ?_
              refine qg_valB rfl rfl rfl rfl rfl (fun w hS => e_neqV (eqHead (mkH h L) ⟨hsum h, h.height + 1, mroot (L.xs.map txsum), L.n⟩ (mkH_ok _ _) ⟨length_hsum _, length_mroot _⟩) (by decide) gd66 rfl rfl) hS (fun hg68 => ?_) (fun hg68 => ?_)
              · exact False.elim (hg68 eH)
              · refine q_val (fun w hS => e_pick_f rfl rfl) rfl hS ?_
                refine q_val (fun w hS => e_move (v := .bool _) rfl) rfl hS ?_
                refine qg_val rfl rfl rfl rfl rfl (fun w hS => e_loadW 1 rfl ag69 sz69 hS rfl rfl (by first | with_reducible assumption | (rw [bv_length]; with_reducible assumption) | (rw [List.size_toArray, bv_length]; with_reducible assumption) | (simp [cat, Value.cells, blkC, headC, hk.1, hk.2, (mkH_ok h L).1, (mkH_ok h L).2, length_mroot, length_hsum, length_txsum, length_zsum, zc69, zc66]; done) | (simp [cat, Value.cells, blkC, headC, hk.1, hk.2, (mkH_ok h L).1, (mkH_ok h L).2, length_mroot, length_hsum, length_txsum, length_zsum, zc69, zc66]; omega) | rfl)) hS ?_
                refine qg_does rfl rfl rfl rfl rfl (d_call Try.func51 nm51 rfl rfl (bb_right _ (mkH h L) (mkH_ok _ _) (mkL h L k18 c18) (mkX_ok (hL.carry (S.carry0)) (S.rdRw 2 rfl rfl) (S.capRw 2 rfl rfl)) (by show (mkX h L).length ≤ 1000; omega) (fun x hx => hsm.2 x (mkX_mem hx)))) ?_
                rintro _ w ⟨rfl, hB⟩
                have S := S.below hB
                have hS := S.pk [0, 1, 2, 3] rfl
                refine ⟨hS, ?_⟩
                rcases Classical.em (bright (mkH h L) (mkL h L k18 c18)) with hg72 | hg72
                · rw [decide_eq_true hg72]
                  refine qg_val rfl rfl rfl rfl rfl (fun w hS => e_not rfl) hS ?_
                  refine q_val (fun w hS => e_pick_f rfl rfl) rfl hS ?_
                  refine q_val (fun w hS => e_move (v := .bool _) rfl) rfl hS ?_
                  refine qg_val rfl rfl rfl rfl rfl (fun w hS => e_field rfl Try.underlying69 rfl sz67 (by decide)) hS ?_
                  refine qg_val rfl rfl rfl rfl rfl (fun w hS => e_loadF1 (i := 4) (off := 66) rfl ag67 hS (j := 1) rfl rfl rfl (by first | with_reducible assumption | (rw [bv_length]; with_reducible assumption) | (rw [List.size_toArray, bv_length]; with_reducible assumption) | (simp [cat, Value.cells, blkC, headC, hk.1, hk.2, (mkH_ok h L).1, (mkH_ok h L).2, length_mroot, length_hsum, length_txsum, length_zsum, zc69, zc66]; done) | (simp [cat, Value.cells, blkC, headC, hk.1, hk.2, (mkH_ok h L).1, (mkH_ok h L).2, length_mroot, length_hsum, length_txsum, length_zsum, zc69, zc66]; omega) | rfl)) hS ?_
                  refine qg_val rfl rfl rfl rfl rfl (fun w hS => e_len rfl Try.underlying67) hS ?_
                  refine qg_val rfl rfl rfl rfl rfl (fun w hS => e_move (v := .slice _ _ _) rfl) hS ?_
                  refine qg_val rfl rfl rfl rfl rfl (fun w hS => e_len rfl Try.underlying67) hS ?_
                  refine qg_val rfl rfl rfl rfl rfl (fun w hS => e_neq rfl rfl) hS ?_
                  refine q_val (fun w hS => e_pick_f rfl rfl) rfl hS ?_
                  refine q_nil ?_
                  exact p_nil (x_then ⟨_, rfl, _, _, upds_eq ⟨rfl, rfl, rfl, rfl, trivial⟩, by first | (simp only [decide_eq_true_eq, eq_self, true_iff, iff_true, iff_false, Bool.false_eq_true, false_iff, ge_iff_le, gt_iff_lt, true_and, and_true, false_and, and_false, true_or, or_true, false_or, or_false, not_true_eq_false, not_false_eq_true]; omega) | (simp; done) | omega | (simp_all; done), S⟩)
                · exact False.elim (hg72 (mk_bright i1 e))
          · rintro f w ⟨u, b82, rfl, hb82, S⟩
            refine x_then ?_
            refine s_condb rfl (fun hc82 => ?_) (fun hc82 => ?_)
            · exact False.elim ((fun (hp82 : False) => hp82) (hb82.1 hc82))
            · have hp82 : ¬ False := fun h => by rw [hb82.2 h] at hc82; cases hc82
              refine s_skip (x_then (s_seq (s_seq (s_plain ?_))))
              refine p_val (e_assign (v := .int _ _) rfl) rfl ?_
              refine p_nil (x_then (s_block ?_))
              refine s_loopK (α := Nat) (ks := [k52, some b5, k18, some b2]) (ps := [Rw _ _ _ _ _, Ex _ _, Rw _ _ _ _ _, Ex _ _]) [(1, .slice _ _ _), (5, .pointer _), (7, .slice _ _ _)] ⟨rfl, rfl, rfl, trivial⟩ S (fun keep ks ps g f' w' => ∃ u, f' = upds u ((8, .int .i64 (g : Int)) :: keep) ∧ (g ≤ L.n) ∧ St w0 w' [] [k52, some b5, k18, some b2] [(ps.getD 0 fun _ => True), (ps.getD 1 fun _ => True), (ps.getD 2 fun _ => True), (ps.getD 3 fun _ => True)]) (fun g => L.n - g) (0) (⟨_, upds_eq ⟨rfl, rfl, rfl, rfl, trivial⟩, by first | omega | rfl | with_reducible assumption | (simp; done) | (simp; omega), S⟩) ?_
              rintro g f w ⟨u, rfl, hg, S⟩
              refine s_seq (s_seq (s_plain ?_))
              refine p_val (e_move (v := .int _ _) rfl) rfl ?_
              refine p_val (e_move (v := .slice _ _ _) rfl) rfl ?_
              refine p_val (e_len rfl Try.underlying67) rfl ?_
              refine p_val (e_lss rfl rfl) rfl ?_
              refine p_nil (x_then ?_)
              refine s_cond rfl (fun hc86 => ?_) (fun hc86 => ?_)
              · obtain ⟨y, hat0, hym⟩ := some_at (n := L.n) (show (mkX h L).length = L.n by rw [eX]; exact i1) (g := g) (by omega)
                have hat : (mkX h L)[(g : Int).toNat]? = some y := hat0
                have hx32 : ((L.xs.map txsum).getD (g : Int).toNat []).length = 32 := hal.getD (by omega)
                have hy : (L.xs.map txsum).getD (g : Int).toNat [] = txsum y := by rw [List.getD_eq_getElem?_getD, List.getElem?_map, ← eX, hat]; rfl
                have hmc : mcheck (mkH h L).root ((L.xs.map txsum).getD (g : Int).toNat []) (g : Int) (mkH h L).many (mpath ((mkX h L).map txsum) (g : Int)) := by rw [eH, eX, ← hln, Int.toNat_natCast]; exact mcheck_path (by omega) (by omega)
                refine s_skip (x_then (s_seq (s_block (s_seq (s_plain ?_)))))
                refine p_val (e_loadW 1 rfl ag69 sz69 S rfl rfl (by first | with_reducible assumption | (rw [bv_length]; with_reducible assumption) | (rw [List.size_toArray, bv_length]; with_reducible assumption) | (simp [cat, Value.cells, blkC, headC, hk.1, hk.2, (mkH_ok h L).1, (mkH_ok h L).2, length_mroot, length_hsum, length_txsum, length_zsum, zc69, zc66]; done) | (simp [cat, Value.cells, blkC, headC, hk.1, hk.2, (mkH_ok h L).1, (mkH_ok h L).2, length_mroot, length_hsum, length_txsum, length_zsum, zc69, zc66]; omega) | rfl)) rfl ?_
                refine p_val (e_move (v := .int _ _) rfl) rfl ?_
                refine p_does (d_call Try.func55 nm55 rfl rfl (bb_path _ (mkH h L) (mkH_ok _ _) (mkL h L k18 c18) (mkX_ok (hL.carry (S.carry0)) (S.rdRw 2 rfl rfl) (S.capRw 2 rfl rfl)) (by show (mkX h L).length ≤ 1000; omega) (fun x hx => hsm.2 x (mkX_mem hx)) (g : Int))) rfl ?_
                rintro _ w ⟨k92, c92, rfl, T⟩
                have S := S.merge T rfl
                refine p_val (e_move (v := .tuple _) rfl) rfl ?_
                refine p_val (e_extract rfl rfl) rfl ?_
                refine p_val (e_extract rfl rfl) rfl ?_
                refine p_val (e_assign (v := .slice _ _ _) rfl) rfl ?_
                refine p_val (e_assign (v := .bool _) rfl) rfl ?_
                refine p_nil (x_then (s_seq ?_))
                refine s_cutK (ks := [k92, k52, some b5, k18, some b2]) (ps := [Rw _ _ _ _ _, Rw _ _ _ _ _, Ex _ _, Rw _ _ _ _ _, Ex _ _]) [(1, .slice _ _ _), (5, .pointer _), (7, .slice _ _ _), (8, .int _ _)] ⟨rfl, rfl, rfl, rfl, trivial⟩ S (fun keep ks ps f' w' => ∃ u bb, f' = upds u ((121, .bool bb) :: keep) ∧ (bb = true ↔ False) ∧ St w0 w' [] ks ps) ?_ ?_
                · refine s_drawK (ks := [k92, k52, some b5, k18, some b2]) (ps := [Rw _ _ _ _ _, Rw _ _ _ _ _, Ex _ _, Rw _ _ _ _ _, Ex _ _]) S [(true, 0), (true, 1), (true, 2), (true, 3), (true, 4), (true, 5), (true, 6), (true, 7), (true, 8), (true, 9), (true, 10), (false, 11), (true, 12), (true, 13), (true, 14), (true, 15), (true, 16), (true, 17), (true, 18), (true, 19), (true, 21), (true, 22), (true, 23), (true, 24), (false, 20), (true, 25), (true, 26)] [] [] mixed (by kernel_rfl) (by repeat (first | exact Calm.post _ _ _ | refine Calm.then ?_ _ | refine Calm.inB ?_ _)) (fun hS => ?_)
                  have S := S.drew
                  rcases Classical.em (0 ≤ (g : Int) ∧ (g : Int) < ((mkX h L).length : Int)) with hg95 | hg95
                  · rw [decide_eq_true hg95]
                    refine q_val (fun w hS => e_move (v := .bool _) rfl) rfl hS ?_
                    refine q_val (fun w hS => e_not rfl) rfl hS ?_
                    refine q_val (fun w hS => e_move (v := .bool _) rfl) rfl hS ?_
                    refine qg_val rfl rfl rfl rfl rfl (fun w hS => e_field rfl Try.underlying69 rfl sz66 (by decide)) hS ?_
                    refine qg_val rfl rfl rfl rfl rfl (fun w hS => e_loadFS (i := 0) (n := 4) (off := 0) rfl ag66 sz66 (by decide) hS (j := 2) rfl rfl (by first | with_reducible assumption | (rw [bv_length]; with_reducible assumption) | (rw [List.size_toArray, bv_length]; with_reducible assumption) | (simp [cat, Value.cells, blkC, headC, hk.1, hk.2, (mkH_ok h L).1, (mkH_ok h L).2, length_mroot, length_hsum, length_txsum, length_zsum, zc69, zc66]; done) | (simp [cat, Value.cells, blkC, headC, hk.1, hk.2, (mkH_ok h L).1, (mkH_ok h L).2, length_mroot, length_hsum, length_txsum, length_zsum, zc69, zc66]; omega) | rfl) (by first | with_reducible assumption | (rw [bv_length]; with_reducible assumption) | (rw [List.size_toArray, bv_length]; with_reducible assumption) | (simp [cat, Value.cells, blkC, headC, hk.1, hk.2, (mkH_ok h L).1, (mkH_ok h L).2, length_mroot, length_hsum, length_txsum, length_zsum, zc69, zc66]; done) | (simp [cat, Value.cells, blkC, headC, hk.1, hk.2, (mkH_ok h L).1, (mkH_ok h L).2, length_mroot, length_hsum, length_txsum, length_zsum, zc69, zc66]; omega) | rfl)) hS ?_
                    refine qg_val rfl rfl rfl rfl rfl (fun w hS => e_move (v := .slice _ _ _) rfl) hS ?_
                    refine qg_val rfl rfl rfl rfl rfl (fun w hS => e_move (v := .int _ _) rfl) hS ?_
                    refine qg_val rfl rfl rfl rfl rfl (fun w hS => e_ixR (hS.rdRw 1 rfl rfl) (by decide) rfl rfl Try.underlying24 sz29 (by omega)) hS ?_
                    refine qg_val rfl rfl rfl rfl rfl (fun w hS => e_loadRA rfl ag29 sz29 (by decide) (Rd.sumA (hS.rdRw 1 rfl rfl) (by with_reducible assumption) (by omega))) hS ?_
                    refine qg_val rfl rfl rfl rfl rfl (fun w hS => e_move (v := .int _ _) rfl) hS ?_
                    refine qg_val rfl rfl rfl rfl rfl (fun w hS => e_move (v := .slice _ _ _) rfl) hS ?_
                    refine qg_does rfl rfl rfl rfl rfl (d_call Try.func56 nm56 rfl rfl (bh_has _ (mkH h L) (mkH_ok _ _) ((L.xs.map txsum).getD (g : Int).toNat []) (g : Int) _ _ (mpath ((mkX h L).map txsum) (g : Int)) hx32 (S.rdRw 0 rfl rfl) (mpath_all _ _) (S.capRw 0 rfl rfl))) ?_
                    rintro _ w ⟨rfl, hB⟩
                    have S := S.below hB
                    have hS := S.pk [0, 1, 2, 3, 4] rfl
                    refine ⟨hS, ?_⟩
                    rcases Classical.em (mcheck (mkH h L).root ((L.xs.map txsum).getD (g : Int).toNat []) (g : Int) (mkH h L).many (mpath ((mkX h L).map txsum) (g : Int))) with hg106 | hg106
                    · rw [decide_eq_true hg106]
                      refine qg_val rfl rfl rfl rfl rfl (fun w hS => e_not rfl) hS ?_
                      refine q_val (fun w hS => e_pick_f rfl rfl) rfl hS ?_
                      refine q_val (fun w hS => e_move (v := .bool _) rfl) rfl hS ?_
                      refine qg_val rfl rfl rfl rfl rfl (fun w hS => e_field rfl Try.underlying69 rfl sz67 (by decide)) hS ?_
                      refine qg_val rfl rfl rfl rfl rfl (fun w hS => e_loadF1 (i := 4) (off := 66) rfl ag67 hS (j := 2) rfl rfl rfl (by first | with_reducible assumption | (rw [bv_length]; with_reducible assumption) | (rw [List.size_toArray, bv_length]; with_reducible assumption) | (simp [cat, Value.cells, blkC, headC, hk.1, hk.2, (mkH_ok h L).1, (mkH_ok h L).2, length_mroot, length_hsum, length_txsum, length_zsum, zc69, zc66]; done) | (simp [cat, Value.cells, blkC, headC, hk.1, hk.2, (mkH_ok h L).1, (mkH_ok h L).2, length_mroot, length_hsum, length_txsum, length_zsum, zc69, zc66]; omega) | rfl)) hS ?_
                      refine qg_val rfl rfl rfl rfl rfl (fun w hS => e_move (v := .int _ _) rfl) hS ?_
                      refine qg_val rfl rfl rfl rfl rfl (fun w hS => e_ixR (hS.rdRw 3 rfl rfl) (by decide) rfl rfl Try.underlying67 sz87 (by omega)) hS ?_
                      refine qg_val rfl rfl rfl rfl rfl (fun w hS => e_loadRA rfl ag87 sz87 (by decide) ((Rd.elemA (hS.rdRw 3 rfl rfl) (fun x hx => txV_len (i3 x (mkX_mem hx)).root) (hat)))) hS ?_
                      refine qg_val rfl rfl rfl rfl rfl (fun w hS => e_move (v := .slice _ _ _) rfl) hS ?_
                      refine qg_val rfl rfl rfl rfl rfl (fun w hS => e_move (v := .int _ _) rfl) hS ?_
                      refine qg_val rfl rfl rfl rfl rfl (fun w hS => e_ixR (hS.rdRw 1 rfl rfl) (by decide) rfl rfl Try.underlying24 sz29 (by omega)) hS ?_
                      refine qg_val rfl rfl rfl rfl rfl (fun w hS => e_loadRA rfl ag29 sz29 (by decide) (Rd.sumA (hS.rdRw 1 rfl rfl) (by with_reducible assumption) (by omega))) hS ?_
                      refine qg_does rfl rfl rfl rfl rfl (d_call Try.func57 nm57 rfl rfl (tx_sum _ y ((i3 y (mkX_mem hym)).carry (S.carry0)) (hsm.2 y (mkX_mem hym)))) ?_
                      rintro _ w ⟨rfl, hB⟩
                      have S := S.below hB
                      have hS := S.pk [0, 1, 2, 3, 4] rfl
                      refine ⟨hS, ?_⟩
                      refine qg_val rfl rfl rfl rfl rfl (fun w hS => EqT.sumN eq29 gd29 rfl rfl (by first | with_reducible assumption | (rw [bv_length]; with_reducible assumption) | (rw [List.size_toArray, bv_length]; with_reducible assumption) | (simp [cat, Value.cells, blkC, headC, hk.1, hk.2, (mkH_ok h L).1, (mkH_ok h L).2, length_mroot, length_hsum, length_txsum, length_zsum, zc69, zc66]; done) | (simp [cat, Value.cells, blkC, headC, hk.1, hk.2, (mkH_ok h L).1, (mkH_ok h L).2, length_mroot, length_hsum, length_txsum, length_zsum, zc69, zc66]; omega) | rfl) (by first | with_reducible assumption | (rw [bv_length]; with_reducible assumption) | (rw [List.size_toArray, bv_length]; with_reducible assumption) | (simp [cat, Value.cells, blkC, headC, hk.1, hk.2, (mkH_ok h L).1, (mkH_ok h L).2, length_mroot, length_hsum, length_txsum, length_zsum, zc69, zc66]; done) | (simp [cat, Value.cells, blkC, headC, hk.1, hk.2, (mkH_ok h L).1, (mkH_ok h L).2, length_mroot, length_hsum, length_txsum, length_zsum, zc69, zc66]; omega) | rfl)) hS ?_
                      refine q_val (fun w hS => e_pick_f rfl rfl) rfl hS ?_
                      refine q_nil ?_
                      exact p_nil (x_then ⟨_, rfl, _, _, upds_eq ⟨rfl, rfl, rfl, rfl, rfl, trivial⟩, by first | (simp only [decide_eq_true_eq, eq_self, true_iff, iff_true, iff_false, Bool.false_eq_true, false_iff, ge_iff_le, gt_iff_lt, true_and, and_true, false_and, and_false, true_or, or_true, false_or, or_false, not_true_eq_false, not_false_eq_true]; omega) | (simp; done) | omega | (simp_all; done), S⟩)
                    · rw [decide_eq_false hg106]
                      refine qg_val rfl rfl rfl rfl rfl (fun w hS => e_not rfl) hS ?_
                      refine q_val (fun w hS => e_pick_f rfl rfl) rfl hS ?_
                      refine q_val (fun w hS => e_move (v := .bool _) rfl) rfl hS ?_
                      refine q_no rfl rfl rfl rfl rfl hS ?_
                      refine q_no rfl rfl rfl rfl rfl hS ?_
                      refine q_no rfl rfl rfl rfl rfl hS ?_
                      refine q_no rfl rfl rfl rfl rfl hS ?_
                      refine q_no rfl rfl rfl rfl rfl hS ?_
                      refine q_no rfl rfl rfl rfl rfl hS ?_
                      refine q_no rfl rfl rfl rfl rfl hS ?_
                      refine q_no rfl rfl rfl rfl rfl hS ?_
                      refine q_no rfl rfl rfl rfl rfl hS ?_
                      refine q_no rfl rfl rfl rfl rfl hS ?_
                      refine q_no rfl rfl rfl rfl rfl hS ?_
                      refine q_val (fun w hS => e_pick_t rfl rfl) rfl hS ?_
                      refine q_nil ?_
                      exact p_nil (x_then ⟨_, rfl, _, _, upds_eq ⟨rfl, rfl, rfl, rfl, rfl, trivial⟩, by first | (simp only [decide_eq_true_eq, eq_self, true_iff, iff_true, iff_false, Bool.false_eq_true, false_iff, ge_iff_le, gt_iff_lt, true_and, and_true, false_and, and_false, true_or, or_true, false_or, or_false, not_true_eq_false, not_false_eq_true]; omega) | (simp; done) | omega | (simp_all; done), S⟩)
                  · rw [decide_eq_false hg95]
                    refine q_val (fun w hS => e_move (v := .bool _) rfl) rfl hS ?_
                    refine q_val (fun w hS => e_not rfl) rfl hS ?_
                    refine q_val (fun w hS => e_move (v := .bool _) rfl) rfl hS ?_
                    refine q_no rfl rfl rfl rfl rfl hS ?_
                    refine q_no rfl rfl rfl rfl rfl hS ?_
                    refine q_no rfl rfl rfl rfl rfl hS ?_
                    refine q_no rfl rfl rfl rfl rfl hS ?_
                    refine q_no rfl rfl rfl rfl rfl hS ?_
                    refine q_no rfl rfl rfl rfl rfl hS ?_
                    refine q_no rfl rfl rfl rfl rfl hS ?_
                    refine q_no rfl rfl rfl rfl rfl hS ?_
                    refine q_no rfl rfl rfl rfl rfl hS ?_
                    refine q_no rfl rfl rfl rfl rfl hS ?_
                    refine q_val (fun w hS => e_pick_t rfl rfl) rfl hS ?_
                    refine q_val (fun w hS => e_move (v := .bool _) rfl) rfl hS ?_
                    refine q_no rfl rfl rfl rfl rfl hS ?_
                    refine q_no rfl rfl rfl rfl rfl hS ?_
                    refine q_no rfl rfl rfl rfl rfl hS ?_
                    refine q_no rfl rfl rfl rfl rfl hS ?_
                    refine q_no rfl rfl rfl rfl rfl hS ?_
                    refine q_no rfl rfl rfl rfl rfl hS ?_
                    refine q_no rfl rfl rfl rfl rfl hS ?_
                    refine q_no rfl rfl rfl rfl rfl hS ?_
                    refine q_no rfl rfl rfl rfl rfl hS ?_
                    refine q_no rfl rfl rfl rfl rfl hS ?_
                    refine q_no rfl rfl rfl rfl rfl hS ?_
                    refine q_val (fun w hS => e_pick_t rfl rfl) rfl hS ?_
                    refine q_nil ?_
                    exact p_nil (x_then ⟨_, rfl, _, _, upds_eq ⟨rfl, rfl, rfl, rfl, rfl, trivial⟩, by first | (simp only [decide_eq_true_eq, eq_self, true_iff, iff_true, iff_false, Bool.false_eq_true, false_iff, ge_iff_le, gt_iff_lt, true_and, and_true, false_and, and_false, true_or, or_true, false_or, or_false, not_true_eq_false, not_false_eq_true]; omega) | (simp; done) | omega | (simp_all; done), S⟩)
                · rintro f w ⟨u, b121, rfl, hb121, S⟩
                  refine x_then ?_
                  refine s_condb rfl (fun hc121 => ?_) (fun hc121 => ?_)
                  · exact False.elim ((fun (hp121 : False) => hp121) (hb121.1 hc121))
                  · have hp121 : ¬ False := fun h => by rw [hb121.2 h] at hc121; cases hc121
                    refine s_skip (x_in (x_then (s_plain ?_)))
                    refine p_val (e_move (v := .int _ _) rfl) rfl ?_
                    refine p_val (e_add64 rfl rfl (by omega)) rfl ?_
                    refine p_val (e_assign (v := .int _ _) rfl) rfl ?_
                    refine p_nil ?_
                    refine x_round (g + 1) _ rfl ⟨_, upds_eq ⟨rfl, rfl, rfl, rfl, trivial⟩, by first | omega | rfl | with_reducible assumption | (simp; done) | (simp; omega), S.pk [1, 2, 3, 4] rfl⟩ (by omega)
              · refine s_exit (x_then_exit (x_then_exit (x_in_same (x_then (s_seq (s_plain ?_))))))
                refine p_does (d_call Try.func49 nm49 rfl rfl (l19awake _)) rfl ?_
                rintro _ w ⟨rfl, hB⟩
                have S := S.below hB
                refine p_val (e_assign (v := .bool _) rfl) rfl ?_
                refine p_nil (x_then (s_ret ?_))
                exact post1 (v := .bool _) Try.results12 rfl (⟨rfl, S.to_below⟩)
theorem txV_lenT {w : World} {bs : List Nat} {x : TxV} (h : TxOk w bs x) : (txV x).length = 40 := txV_len h.root
end Go.Proofs.Ytdhfiamgmokfbaa

/- Transactions and blocks as arguments. It proves no statement by itself. -/
set_option linter.unusedSimpArgs false
set_option linter.unusedVariables false
namespace Go.Proofs.Ytdhfiamgmokfbaa
open Go Go.RowKit Go.WideShapes Go.ChangeShapes Go.Deep E
section
variable {H : Type} {enc : TypeId × Value → H} {w : World} {base : Nat} {spare : Nat → Bool} {held : Bool}
theorem opensSumB : Opens enc Try.prog w base spare held 29 bv (fun l => l.length = 32) := fun f cs y h => by
  obtain ⟨x, e, h1, _⟩ := opens_sum Try.underlying29 Try.underlying5 (by kernel_rfl) (by kernel_rfl) f cs y h
  exact ⟨x, e, h1⟩
theorem opensIntB : Opens enc Try.prog w base spare held 3 intV (fun _ => True) := fun f cs y h => by
  obtain ⟨x, e, _⟩ := opens_i64 Try.underlying3 f cs y h
  exact ⟨x, e, trivial⟩
theorem opensInt64B : Opens enc Try.prog w base spare held 2 intV (fun _ => True) := fun f cs y h => by
  obtain ⟨x, e, _⟩ := opens_i64 Try.underlying2 f cs y h
  exact ⟨x, e, trivial⟩
theorem opensU8B : Opens enc Try.prog w base spare held 5 byteV (fun _ => True) := fun f cs y h => by
  obtain ⟨x, e, _⟩ := opens_u8 Try.underlying5 f cs y h
  exact ⟨x, e, trivial⟩
theorem opens_slr {α : Type} {t e : TypeId} {s : Nat} {c : α → List Value} {ok : α → Prop} (ht : Try.prog.underlying t = some (.slice e)) (hs : Try.prog.cellsOf e = s) (ho : ∀ base spare held, Opens enc Try.prog w base spare held e c ok) (hl : ∀ x, ok x → (c x).length = s) :
    Opens enc Try.prog w base spare held t slC (Slr w [] s c ok) := fun f cs y h => by
  obtain ⟨x, e0, h1, h2, h3, h4, h5⟩ := opens_slice ht hs ho hl f cs y h
  exact ⟨x, e0, h1, h2, h4, h5, Off.nil⟩
theorem opensBytesB : Opens enc Try.prog w base spare held 33 slC (Slr w [] 1 byteV (fun _ => True)) := opens_slr Try.underlying33 (by kernel_rfl) (fun _ _ _ => opensU8B) (fun _ _ => rfl)
theorem opensIntsB : Opens enc Try.prog w base spare held 128 slC (Slr w [] 1 intV (fun _ => True)) := opens_slr Try.underlying128 (by kernel_rfl) (fun _ _ _ => opensIntB) (fun _ _ => rfl)
theorem opensWay : Opens enc Try.prog w base spare held 149 wayV (WayOk w []) := by
  intro fuel cs y h
  obtain ⟨hcs, n, hf⟩ := trod_parts Try.underlying149 (by kernel_rfl) h
  obtain ⟨y0, g0⟩ := hf 0 _ rfl
  obtain ⟨y1, g1⟩ := hf 1 _ rfl
  obtain ⟨y2, g2⟩ := hf 2 _ rfl
  obtain ⟨y3, g3⟩ := hf 3 _ rfl
  obtain ⟨a0, e0, h0⟩ := opensIntsB _ _ _ g0
  obtain ⟨a1, e1, h1⟩ := opensSumB _ _ _ g1
  obtain ⟨a2, e2, _⟩ := opensIntB _ _ _ g2
  obtain ⟨a3, e3, _⟩ := opensIntB _ _ _ g3
  have h2 : cs = [slC a0, bv a1, intV a2, intV a3].flatten := hcs.trans (congrArg List.flatten (congr (congrArg List.cons e0) (congr (congrArg List.cons e1) (congr (congrArg List.cons e2) (congr (congrArg List.cons e3) rfl)))))
  exact ⟨⟨a0, a1, a2, a3⟩, h2.trans (by simp [wayV, wayC, slC, cat]), h0, h1⟩
theorem opensOut : Opens enc Try.prog w base spare held 147 outV (OutOk w []) := by
  intro fuel cs y h
  obtain ⟨hcs, n, hf⟩ := trod_parts Try.underlying147 (by kernel_rfl) h
  obtain ⟨y0, g0⟩ := hf 0 _ rfl
  obtain ⟨y1, g1⟩ := hf 1 _ rfl
  obtain ⟨a0, e0, _⟩ := opensInt64B _ _ _ g0
  obtain ⟨a1, e1, h1⟩ := opens_slr (s := 35) Try.underlying145 (by kernel_rfl) (fun _ _ _ => opensWay) (fun _ h => wayV_len h.2) _ _ _ g1
  have h2 : cs = [intV a0, slC a1].flatten := hcs.trans (congrArg List.flatten (congr (congrArg List.cons e0) (congr (congrArg List.cons e1) rfl)))
  exact ⟨⟨a0, a1⟩, h2.trans (by simp [outV, outC, slC, cat]), h1⟩
theorem opensRef : Opens enc Try.prog w base spare held 142 (fun x : List Nat × Int => cat [bv x.1, intV x.2]) (fun x => x.1.length = 32) := by
  intro fuel cs y h
  obtain ⟨hcs, n, hf⟩ := trod_parts Try.underlying142 (by kernel_rfl) h
  obtain ⟨y0, g0⟩ := hf 0 _ rfl
  obtain ⟨y1, g1⟩ := hf 1 _ rfl
  obtain ⟨a0, e0, h0⟩ := opensSumB _ _ _ g0
  obtain ⟨a1, e1, _⟩ := opensIntB _ _ _ g1
  have h2 : cs = [bv a0, intV a1].flatten := hcs.trans (congrArg List.flatten (congr (congrArg List.cons e0) (congr (congrArg List.cons e1) rfl)))
  exact ⟨(a0, a1), h2.trans (by simp [cat]), h0⟩
theorem opensIn : Opens enc Try.prog w base spare held 144 inV (InOk w []) := by
  intro fuel cs y h
  obtain ⟨hcs, n, hf⟩ := trod_parts Try.underlying144 (by kernel_rfl) h
  obtain ⟨y0, g0⟩ := hf 0 _ rfl
  obtain ⟨y1, g1⟩ := hf 1 _ rfl
  obtain ⟨y2, g2⟩ := hf 2 _ rfl
  obtain ⟨a0, e0, h0⟩ := opensRef _ _ _ g0
  obtain ⟨a1, e1, _⟩ := opensIntB _ _ _ g1
  obtain ⟨a2, e2, h2⟩ := opensBytesB _ _ _ g2
  have h3 : cs = [cat [bv a0.1, intV a0.2], intV a1, slC a2].flatten := hcs.trans (congrArg List.flatten (congr (congrArg List.cons e0) (congr (congrArg List.cons e1) (congr (congrArg List.cons e2) rfl))))
  exact ⟨⟨a0.1, a0.2, a1, a2⟩, h3.trans (by simp [inV, inC, slC, cat]), h0, h2⟩
theorem opensSignB : Opens enc Try.prog w base spare held 181 (fun x : Int × List Nat => cat [intV x.1, bv x.2]) (fun x => x.2.length = 32) := by
  intro fuel cs y h
  obtain ⟨hcs, n, hf⟩ := trod_parts Try.underlying181 (by kernel_rfl) h
  obtain ⟨y0, g0⟩ := hf 0 _ rfl
  obtain ⟨y1, g1⟩ := hf 1 _ rfl
  obtain ⟨a0, e0, _⟩ := opensIntB _ _ _ g0
  obtain ⟨a1, e1, h1⟩ := opensSumB _ _ _ g1
  have h2 : cs = [intV a0, bv a1].flatten := hcs.trans (congrArg List.flatten (congr (congrArg List.cons e0) (congr (congrArg List.cons e1) rfl)))
  exact ⟨(a0, a1), h2.trans (by simp [cat]), h1⟩
/-- an op -/
structure OpV where
  (k t c am : Int)
  root : List Nat
  data : Sl Nat
def opV (x : OpV) : List Value := cat [intV x.k, intV x.t, intV x.c, intV x.am, bv x.root, slC x.data]
theorem opensOp : Opens enc Try.prog w base spare held 84 opV (fun x => x.root.length = 32 ∧ Slr w [] 1 byteV (fun _ => True) x.data) := by
  intro fuel cs y h
  obtain ⟨hcs, n, hf⟩ := trod_parts Try.underlying84 (by kernel_rfl) h
  obtain ⟨y0, g0⟩ := hf 0 _ rfl
  obtain ⟨y1, g1⟩ := hf 1 _ rfl
  obtain ⟨y2, g2⟩ := hf 2 _ rfl
  obtain ⟨y3, g3⟩ := hf 3 _ rfl
  obtain ⟨y4, g4⟩ := hf 4 _ rfl
  obtain ⟨y5, g5⟩ := hf 5 _ rfl
  obtain ⟨a0, e0, _⟩ := opensIntB _ _ _ g0
  obtain ⟨a1, e1, _⟩ := opensIntB _ _ _ g1
  obtain ⟨a2, e2, _⟩ := opensIntB _ _ _ g2
  obtain ⟨a3, e3, _⟩ := opensInt64B _ _ _ g3
  obtain ⟨a4, e4, h4⟩ := opensSumB _ _ _ g4
  obtain ⟨a5, e5, h5⟩ := opensBytesB _ _ _ g5
  have h2 : cs = [intV a0, intV a1, intV a2, intV a3, bv a4, slC a5].flatten := hcs.trans (congrArg List.flatten (congr (congrArg List.cons e0) (congr (congrArg List.cons e1) (congr (congrArg List.cons e2) (congr (congrArg List.cons e3) (congr (congrArg List.cons e4) (congr (congrArg List.cons e5) rfl)))))))
  exact ⟨⟨a0, a1, a2, a3, a4, a5⟩, h2.trans (by simp [opV, slC, cat]), h4, h5⟩
theorem opensTx : Opens enc Try.prog w base spare held 87 txV (TxOk w []) := by
  intro fuel cs y h
  obtain ⟨hcs, n, hf⟩ := trod_parts Try.underlying87 (by kernel_rfl) h
  obtain ⟨y0, g0⟩ := hf 0 _ rfl
  obtain ⟨y1, g1⟩ := hf 1 _ rfl
  obtain ⟨y2, g2⟩ := hf 2 _ rfl
  obtain ⟨y3, g3⟩ := hf 3 _ rfl
  obtain ⟨a0, e0, h0⟩ := opens_slr (s := 35) Try.underlying81 (by kernel_rfl) (fun _ _ _ => opensIn) (fun _ h => inV_len h.1) _ _ _ g0
  obtain ⟨a1, e1, h1⟩ := opens_slr (s := 2) Try.underlying82 (by kernel_rfl) (fun _ _ _ => opensOut) (fun _ h => rfl) _ _ _ g1
  obtain ⟨a2, e2, h2, h2d⟩ := opensOp _ _ _ g2
  obtain ⟨a3, e3, _⟩ := opens_slr (s := 33) Try.underlying85 (by kernel_rfl) (fun _ _ _ => opensSignB) (fun x h => by simp [cat, h]) _ _ _ g3
  have h4 : cs = [slC a0, slC a1, opV a2, slC a3].flatten := hcs.trans (congrArg List.flatten (congr (congrArg List.cons e0) (congr (congrArg List.cons e1) (congr (congrArg List.cons e2) (congr (congrArg List.cons e3) rfl)))))
  exact ⟨⟨a0, a1, a2.k, a2.t, a2.c, a2.am, a2.root, a2.data, a3.A, a3.n, a3.c⟩, h4.trans (by simp [txV, txC, opV, slC, cat]), h0, h1, h2, h2d⟩
def headV (h : HeadV) : List Value := cat (headC h)
theorem opensHead : Opens enc Try.prog w base spare held 66 headV HeadV.ok := by
  intro fuel cs y h
  obtain ⟨hcs, n, hf⟩ := trod_parts Try.underlying66 (by kernel_rfl) h
  obtain ⟨y0, g0⟩ := hf 0 _ rfl
  obtain ⟨y1, g1⟩ := hf 1 _ rfl
  obtain ⟨y2, g2⟩ := hf 2 _ rfl
  obtain ⟨y3, g3⟩ := hf 3 _ rfl
  obtain ⟨a0, e0, h0⟩ := opensSumB _ _ _ g0
  obtain ⟨a1, e1, _⟩ := opensIntB _ _ _ g1
  obtain ⟨a2, e2, h2⟩ := opensSumB _ _ _ g2
  obtain ⟨a3, e3, _⟩ := opensIntB _ _ _ g3
  have h4 : cs = [bv a0, intV a1, bv a2, intV a3].flatten := hcs.trans (congrArg List.flatten (congr (congrArg List.cons e0) (congr (congrArg List.cons e1) (congr (congrArg List.cons e2) (congr (congrArg List.cons e3) rfl)))))
  exact ⟨⟨a0, a1, a2, a3⟩, h4.trans (by simp [headV, headC, cat]), h0, h2⟩
theorem opensTxs : Opens enc Try.prog w base spare held 67 slC (TxsOk w []) := opens_slr (s := 40) Try.underlying67 (by kernel_rfl) (fun _ _ _ => opensTx) (fun _ h => txV_len h.root)
structure BlkV where
  h : HeadV
  L : Sl TxV
def blkV (b : BlkV) : List Value := cat (blkC b.h b.L.A b.L.n b.L.c)
theorem opensBlk : Opens enc Try.prog w base spare held 69 blkV (fun b => b.h.ok ∧ TxsOk w [] b.L) := by
  intro fuel cs y h
  obtain ⟨hcs, n, hf⟩ := trod_parts Try.underlying69 (by kernel_rfl) h
  obtain ⟨y0, g0⟩ := hf 0 _ rfl
  obtain ⟨y1, g1⟩ := hf 1 _ rfl
  obtain ⟨a0, e0, h0⟩ := opensHead _ _ _ g0
  obtain ⟨a1, e1, h1⟩ := opensTxs _ _ _ g1
  have h2 : cs = [headV a0, slC a1].flatten := hcs.trans (congrArg List.flatten (congr (congrArg List.cons e0) (congr (congrArg List.cons e1) rfl)))
  exact ⟨⟨a0, a1⟩, h2.trans (by simp [blkV, headV, headC, blkC, slC, cat]), h0, h1⟩
end
end Go.Proofs.Ytdhfiamgmokfbaa
