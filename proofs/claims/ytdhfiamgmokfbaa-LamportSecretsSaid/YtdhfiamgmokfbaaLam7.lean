/- Chapter 4's example, and the law on secrets. It proves no statement by itself. -/
import Derived.Test.YtdhfiamgmokfbaaLamE
import Derived.Test.YtdhfiamgmokfbaaCon2
import Derived.Test.YtdhfiamgmokfbaaStr
set_option linter.unusedSimpArgs false
set_option linter.unusedVariables false
set_option maxRecDepth 100000
set_option maxHeartbeats 2000000
namespace Go.Proofs.Ytdhfiamgmokfbaa
open Go Go.RowKit E
theorem length_lzeros : lzeros.length = 32 := by simp [lzeros]
theorem l4awake_calls (w0 : World) :
    Ret Try.prog 34 [] w0 fun v w' => v = .bool true ∧ Below w0.heap.size w0 w' := by
  refine enter Try.func34 rfl Try.ntmps34 (Nat.le_of_ble_eq_true rfl) ?_
  have S := St.init w0
  obtain ⟨z, hz⟩ : ∃ z, z = lzeros := ⟨_, rfl⟩
  have hl : z.length = 32 := by rw [hz]; exact length_lzeros
  refine s_seq (s_plain ?_)
  refine p_val (e_assign (v := .bool _) rfl) rfl ?_
  refine p_nil (x_then (s_seq (s_plain ?_)))
  refine p_does (d_allocA S zvS) rfl ?_
  rintro _ w ⟨b1, rfl, S⟩
  have S := S.asEx (show _ = (bv z).toArray by rw [hz]; rfl)
  refine p_nil (x_then (s_seq (s_plain ?_)))
  refine p_val (e_loadW 0 rfl ag29 sz29 S rfl rfl (by first | assumption | (simp [cat, length_lpub, hl]; done) | (simp [cat, length_lpub, hl]; omega) | rfl)) rfl ?_
  refine p_does (d_call Try.func29 nm29 rfl rfl (lsign_calls _ z _ _ _ [] (by first | assumption | (simp [cat, length_lpub, hl]; done) | (simp [cat, length_lpub, hl]; omega) | rfl) (Rd.nil _ _ _) (by omega))) rfl ?_
  rintro _ w ⟨k4, c4, rfl, T⟩
  have S := S.merge T rfl
  refine p_val (e_assign (v := .slice _ _ _) rfl) rfl ?_
  refine p_nil (x_then (s_seq ?_))
  refine s_cutK (ks := [k4, some b1]) (ps := [Rw _ _ _ _ _, Ex _ _]) [] trivial S (fun keep ks ps f' w' => ∃ u bb, f' = upds u ((0, .bool bb) :: keep) ∧ (bb = true ↔ True) ∧ St w0 w' [] ks ps) ?_ ?_
  · refine s_plain ?_
    refine p_val (e_move (v := .slice _ _ _) rfl) rfl ?_
    refine p_val (e_len rfl Try.underlying33) rfl ?_
    refine p_valB (e_eql rfl rfl) rfl (fun hg7 => ?_) (fun hg7 => ?_)
    · refine p_val (e_move (v := .bool _) rfl) rfl ?_
      refine p_val (e_pick_t rfl rfl) rfl ?_
      refine p_val (e_move (v := .bool _) rfl) rfl ?_
      refine p_val (e_pick_t rfl rfl) rfl ?_
      refine p_val (e_move (v := .bool _) rfl) rfl ?_
      refine pg_val rfl rfl rfl rfl rfl (e_loadW 1 rfl ag29 sz29 S rfl rfl (by first | assumption | (simp [cat, length_lpub, hl]; done) | (simp [cat, length_lpub, hl]; omega) | rfl)) ?_
      refine pg_does rfl rfl rfl rfl rfl (d_call Try.func31 nm31 rfl rfl (lpub_calls _ z (by first | assumption | (simp [cat, length_lpub, hl]; done) | (simp [cat, length_lpub, hl]; omega) | rfl))) ?_
      rintro _ w ⟨rfl, hB⟩
      have S := S.below hB
      refine pg_val rfl rfl rfl rfl rfl (e_move (v := .slice _ _ _) rfl) ?_
      refine pg_does rfl rfl rfl rfl rfl (d_call Try.func32 nm32 rfl rfl (verify_yes _ _ _ _ _ _ _ _ [] _ (by first | assumption | (simp [cat, length_lpub, hl]; done) | (simp [cat, length_lpub, hl]; omega) | rfl) (Rd.nil _ _ _) (by omega) (S.rdRw 0 rfl rfl) (S.capRw 0 rfl rfl) (by omega))) ?_
      rintro _ w ⟨rfl, hB⟩
      have S := S.below hB
      rcases Classical.em (lback [] (lsig z []) = lpub z) with hg16 | hg16
      · rw [decide_eq_true hg16]
        refine p_val (e_pick_t rfl rfl) rfl ?_
        refine p_val (e_move (v := .bool _) rfl) rfl ?_
        refine pg_val rfl rfl rfl rfl rfl (e_loadW 1 rfl ag29 sz29 S rfl rfl (by first | assumption | (simp [cat, length_lpub, hl]; done) | (simp [cat, length_lpub, hl]; omega) | rfl)) ?_
        refine pg_val rfl rfl rfl rfl rfl (e_move (v := .slice _ _ _) rfl) ?_
        refine pg_does rfl rfl rfl rfl rfl (d_call Try.func32 nm32 rfl rfl (verify_yes _ z _ _ _ _ _ _ [] _ (by first | assumption | (simp [cat, length_lpub, hl]; done) | (simp [cat, length_lpub, hl]; omega) | rfl) (Rd.nil _ _ _) (by omega) (S.rdRw 0 rfl rfl) (S.capRw 0 rfl rfl) (by omega))) ?_
        rintro _ w ⟨rfl, hB⟩
        have S := S.below hB
        rcases Classical.em (lback [] (lsig z []) = z) with hg21 | hg21
        · exact False.elim (lpub_ne (hz ▸ (back_sign z []).symm.trans hg21))
        · rw [decide_eq_false hg21]
          refine pg_val rfl rfl rfl rfl rfl (e_not rfl) ?_
          refine p_val (e_pick_t rfl rfl) rfl ?_
          refine p_val (e_assign (v := .bool _) rfl) rfl ?_
          exact p_nil (x_then ⟨_, rfl, _, _, upds_eq ⟨rfl, trivial⟩, by first | (simp only [decide_eq_true_eq, eq_self, true_iff, iff_true, iff_false, Bool.false_eq_true, false_iff, ge_iff_le, gt_iff_lt, true_and, and_true, false_and, and_false, true_or, or_true, false_or, or_false, not_true_eq_false, not_false_eq_true]; omega) | simp | omega | simp_all, S⟩)
      · exact False.elim (hg16 (back_sign _ _))
    · exact False.elim (hg7 rfl)
  · rintro f w ⟨u, b0, rfl, hb0, S⟩
    refine x_then (s_ret ?_)
    exact post1 (v := .bool _) Try.results34 rfl (⟨by rw [hb0.2 trivial], S.to_below⟩)
theorem lsecrets_calls (w0 : World) (s : List Nat) (i b : Int) (hs : s.length = 32) :
    Ret Try.prog 6 [.agg (bv s).toArray, .int .i64 i, .int .i64 b] w0 fun v w' => v = .bool true ∧ Below w0.heap.size w0 w' := by
  refine enter Try.func6 rfl Try.ntmps6 (Nat.le_of_ble_eq_true rfl) ?_
  have S := St.init w0
  refine s_seq (s_plain ?_)
  refine p_does (d_boxA S rfl) rfl ?_
  rintro _ w ⟨b3, rfl, S⟩
  refine p_val (e_assign (v := .bool _) rfl) rfl ?_
  refine p_nil (x_then (s_seq (s_plain ?_)))
  refine p_val (e_loadW 0 rfl ag29 sz29 S rfl rfl (by first | assumption | (simp [cat, length_lsec, length_lshown, hs]; done) | (simp [cat, length_lsec, length_lshown, hs]; omega) | rfl)) rfl ?_
  refine p_val (e_move (v := .int _ _) rfl) rfl ?_
  refine p_val (e_move (v := .int _ _) rfl) rfl ?_
  refine p_does (d_call Try.func35 nm35 rfl rfl (lsec_calls _ _ _ _ (by first | assumption | (simp [cat, length_lsec, length_lshown, hs]; done) | (simp [cat, length_lsec, length_lshown, hs]; omega) | rfl))) rfl ?_
  rintro _ w ⟨rfl, hB⟩
  have S := S.below hB
  refine p_does (d_allocA S zvS) rfl ?_
  rintro _ w ⟨b7, rfl, S⟩
  refine p_does (d_storeW S 0 rfl rfl (by first | exact bv_one _ | exact sv_one _ | exact iv_one _ | assumption | (refine One.mem ?_; repeat (first | exact One.bv _ | exact One.sv _ | exact One.iv _ | exact One.nil | exact One.cat0 | refine One.cat1 ?_ ?_ | refine One.cons rfl ?_ | refine One.append ?_ ?_))) sz29 (by first | assumption | (simp [cat, length_lsec, length_lshown, hs]; done) | (simp [cat, length_lsec, length_lshown, hs]; omega) | rfl) rfl rfl (by first | assumption | (simp [cat, length_lsec, length_lshown, hs]; done) | (simp [cat, length_lsec, length_lshown, hs]; omega) | rfl)) rfl ?_
  intro _ w S
  refine p_nil (x_then (s_seq (s_seq ?_)))
  refine s_cutK (ks := [some b7, some b3]) (ps := [Ex _ _, Ex _ _]) [(1, .int _ _), (2, .int _ _), (3, .pointer _), (7, .pointer _)] ⟨rfl, rfl, rfl, rfl, trivial⟩ S (fun keep ks ps f' w' => ∃ u bb, f' = upds u ((25, .bool bb) :: keep) ∧ (bb = true ↔ ((((i < (0 : Int)) ∨ ((255 : Int) < i)) ∨ (b < (0 : Int))) ∨ ((1 : Int) < b))) ∧ St w0 w' [] ks ps) ?_ ?_
  · refine s_plain ?_
    refine p_val (e_move (v := .int _ _) rfl) rfl ?_
    refine p_valB (e_lss rfl rfl) rfl (fun hg13 => ?_) (fun hg13 => ?_)
    · refine p_val (e_move (v := .bool _) rfl) rfl ?_
      refine p_no rfl rfl rfl rfl rfl ?_
      refine p_no rfl rfl rfl rfl rfl ?_
      refine p_val (e_pick_t rfl rfl) rfl ?_
      refine p_val (e_move (v := .bool _) rfl) rfl ?_
      refine p_no rfl rfl rfl rfl rfl ?_
      refine p_no rfl rfl rfl rfl rfl ?_
      refine p_val (e_pick_t rfl rfl) rfl ?_
      refine p_val (e_move (v := .bool _) rfl) rfl ?_
      refine p_no rfl rfl rfl rfl rfl ?_
      refine p_no rfl rfl rfl rfl rfl ?_
      refine p_val (e_pick_t rfl rfl) rfl ?_
      exact p_nil (x_then ⟨_, rfl, _, _, upds_eq ⟨rfl, rfl, rfl, rfl, rfl, trivial⟩, by first | (simp only [decide_eq_true_eq, eq_self, true_iff, iff_true, iff_false, Bool.false_eq_true, false_iff, ge_iff_le, gt_iff_lt, true_and, and_true, false_and, and_false, true_or, or_true, false_or, or_false, not_true_eq_false, not_false_eq_true]; omega) | simp | omega | simp_all, S⟩)
    · refine p_val (e_move (v := .bool _) rfl) rfl ?_
      refine pg_val rfl rfl rfl rfl rfl (e_move (v := .int _ _) rfl) ?_
      refine pg_valB rfl rfl rfl rfl rfl (e_gtr rfl rfl) (fun hg16 => ?_) (fun hg16 => ?_)
      · refine p_val (e_pick_f rfl rfl) rfl ?_
        refine p_val (e_move (v := .bool _) rfl) rfl ?_
        refine p_no rfl rfl rfl rfl rfl ?_
        refine p_no rfl rfl rfl rfl rfl ?_
        refine p_val (e_pick_t rfl rfl) rfl ?_
        refine p_val (e_move (v := .bool _) rfl) rfl ?_
        refine p_no rfl rfl rfl rfl rfl ?_
        refine p_no rfl rfl rfl rfl rfl ?_
        refine p_val (e_pick_t rfl rfl) rfl ?_
        exact p_nil (x_then ⟨_, rfl, _, _, upds_eq ⟨rfl, rfl, rfl, rfl, rfl, trivial⟩, by first | (simp only [decide_eq_true_eq, eq_self, true_iff, iff_true, iff_false, Bool.false_eq_true, false_iff, ge_iff_le, gt_iff_lt, true_and, and_true, false_and, and_false, true_or, or_true, false_or, or_false, not_true_eq_false, not_false_eq_true]; omega) | simp | omega | simp_all, S⟩)
      · refine p_val (e_pick_f rfl rfl) rfl ?_
        refine p_val (e_move (v := .bool _) rfl) rfl ?_
        refine pg_val rfl rfl rfl rfl rfl (e_move (v := .int _ _) rfl) ?_
        refine pg_valB rfl rfl rfl rfl rfl (e_lss rfl rfl) (fun hg20 => ?_) (fun hg20 => ?_)
        · refine p_val (e_pick_f rfl rfl) rfl ?_
          refine p_val (e_move (v := .bool _) rfl) rfl ?_
          refine p_no rfl rfl rfl rfl rfl ?_
          refine p_no rfl rfl rfl rfl rfl ?_
          refine p_val (e_pick_t rfl rfl) rfl ?_
          exact p_nil (x_then ⟨_, rfl, _, _, upds_eq ⟨rfl, rfl, rfl, rfl, rfl, trivial⟩, by first | (simp only [decide_eq_true_eq, eq_self, true_iff, iff_true, iff_false, Bool.false_eq_true, false_iff, ge_iff_le, gt_iff_lt, true_and, and_true, false_and, and_false, true_or, or_true, false_or, or_false, not_true_eq_false, not_false_eq_true]; omega) | simp | omega | simp_all, S⟩)
        · refine p_val (e_pick_f rfl rfl) rfl ?_
          refine p_val (e_move (v := .bool _) rfl) rfl ?_
          refine pg_val rfl rfl rfl rfl rfl (e_move (v := .int _ _) rfl) ?_
          refine pg_val rfl rfl rfl rfl rfl (e_gtr rfl rfl) ?_
          refine p_val (e_pick_f rfl rfl) rfl ?_
          exact p_nil (x_then ⟨_, rfl, _, _, upds_eq ⟨rfl, rfl, rfl, rfl, rfl, trivial⟩, by first | (simp only [decide_eq_true_eq, eq_self, true_iff, iff_true, iff_false, Bool.false_eq_true, false_iff, ge_iff_le, gt_iff_lt, true_and, and_true, false_and, and_false, true_or, or_true, false_or, or_false, not_true_eq_false, not_false_eq_true]; omega) | simp | omega | simp_all, S⟩)
  · rintro f w ⟨u, b25, rfl, hb25, S⟩
    refine x_then ?_
    refine s_condb rfl (fun hc25 => ?_) (fun hc25 => ?_)
    · have hp25 : ((((i < (0 : Int)) ∨ ((255 : Int) < i)) ∨ (b < (0 : Int))) ∨ ((1 : Int) < b)) := hb25.1 hc25
      refine s_seq ?_
      refine s_cutK (ks := [some b7, some b3]) (ps := [Ex _ _, Ex _ _]) [] trivial S (fun keep ks ps f' w' => ∃ u bb, f' = upds u ((6, .bool bb) :: keep) ∧ (bb = true ↔ True) ∧ St w0 w' [] ks ps) ?_ ?_
      · refine s_drawK (ks := [some b7, some b3]) (ps := [Ex _ _, Ex _ _]) S [(true, 0), (true, 2), (false, 1), (false, 3), (true, 4), (true, 5), (false, 6), (true, 7)] [8] [8] mixed (by kernel_rfl) (by repeat (first | exact Calm.post _ _ _ | refine Calm.then ?_ _ | refine Calm.inB ?_ _)) (fun hS => ?_)
        have S := S.drew
        refine q_val (fun w hS => e_loadW 0 rfl ag29 sz29 hS rfl rfl (by first | assumption | (simp [cat, length_lsec, length_lshown, hs]; done) | (simp [cat, length_lsec, length_lshown, hs]; omega) | rfl)) rfl hS ?_
        refine q_val (fun w hS => e_loadW 0 rfl ag29 sz29 hS rfl rfl (by first | assumption | (simp [cat, length_lsec, length_lshown, hs]; done) | (simp [cat, length_lsec, length_lshown, hs]; omega) | rfl)) rfl hS ?_
        refine q_does (d_call Try.func36 nm36 rfl rfl (lshown_calls _ _ (by first | assumption | (simp [cat, length_lsec, length_lshown, hs]; done) | (simp [cat, length_lsec, length_lshown, hs]; omega) | rfl))) rfl ?_
        rintro _ w ⟨rfl, hB⟩
        have S := S.below hB
        have hS := S.pk [0, 1] rfl
        refine ⟨hS, ?_⟩
        refine q_does (d_call Try.func28 nm28 rfl rfl (l4shown_calls _ _ (by first | assumption | (simp [cat, length_lsec, length_lshown, hs]; done) | (simp [cat, length_lsec, length_lshown, hs]; omega) | rfl))) rfl ?_
        rintro _ w ⟨rfl, hB⟩
        have S := S.below hB
        have hS := S.pk [0, 1] rfl
        refine ⟨hS, ?_⟩
        refine q_valB (fun w hS => EqT.sum eq29 gd29 rfl rfl (by first | assumption | (simp [cat, length_lsec, length_lshown, hs]; done) | (simp [cat, length_lsec, length_lshown, hs]; omega) | rfl) (by first | assumption | (simp [cat, length_lsec, length_lshown, hs]; done) | (simp [cat, length_lsec, length_lshown, hs]; omega) | rfl)) rfl hS (fun hg30 => ?_) (fun hg30 => ?_)
        · refine q_val (fun w hS => e_move (v := .bool _) rfl) rfl hS ?_
          refine qg_does rfl rfl rfl rfl rfl (d_call Try.func34 nm34 rfl rfl (l4awake_calls _)) ?_
          rintro _ w ⟨rfl, hB⟩
          have S := S.below hB
          have hS := S.pk [0, 1] rfl
          refine ⟨hS, ?_⟩
          refine q_val (fun w hS => e_pick_t rfl rfl) rfl hS ?_
          refine q_nil ?_
          refine p_val (e_assign (v := .bool _) rfl) rfl ?_
          exact p_nil (x_then ⟨_, rfl, _, _, upds_eq ⟨rfl, trivial⟩, by first | (simp only [decide_eq_true_eq, eq_self, true_iff, iff_true, iff_false, Bool.false_eq_true, false_iff, ge_iff_le, gt_iff_lt, true_and, and_true, false_and, and_false, true_or, or_true, false_or, or_false, not_true_eq_false, not_false_eq_true]; omega) | simp | omega | simp_all, S⟩)
        · exact False.elim (hg30 rfl)
      · rintro f w ⟨u, b6, rfl, hb6, S⟩
        refine x_then (s_ret (x_then_ret ?_))
        exact post1 (v := .bool _) Try.results6 rfl (⟨by rw [hb6.2 trivial], S.to_below⟩)
    · have hp25 : ¬ ((((i < (0 : Int)) ∨ ((255 : Int) < i)) ∨ (b < (0 : Int))) ∨ ((1 : Int) < b)) := fun h => by rw [hb25.2 h] at hc25; cases hc25
      refine s_skip (x_then (s_seq ?_))
      refine s_cutK (ks := [some b7, some b3]) (ps := [Ex _ _, Ex _ _]) [] trivial S (fun keep ks ps f' w' => ∃ u bb, f' = upds u ((6, .bool bb) :: keep) ∧ (bb = true ↔ True) ∧ St w0 w' [] ks ps) ?_ ?_
      · refine s_drawK (ks := [some b7, some b3]) (ps := [Ex _ _, Ex _ _]) S [(true, 0), (true, 1), (true, 2), (true, 3), (false, 4), (true, 5), (true, 6), (true, 7), (true, 9), (false, 8), (false, 10), (true, 11), (true, 12), (true, 13), (false, 14), (true, 15)] [16] [16] mixed (by kernel_rfl) (by repeat (first | exact Calm.post _ _ _ | refine Calm.then ?_ _ | refine Calm.inB ?_ _)) (fun hS => ?_)
        have S := S.drew
        refine q_val (fun w hS => e_loadW 0 rfl ag29 sz29 hS rfl rfl (by first | assumption | (simp [cat, length_lsec, length_lshown, hs]; done) | (simp [cat, length_lsec, length_lshown, hs]; omega) | rfl)) rfl hS ?_
        refine q_val (fun w hS => e_loadW 1 rfl ag29 sz29 hS rfl rfl (by first | assumption | (simp [cat, length_lsec, length_lshown, hs]; done) | (simp [cat, length_lsec, length_lshown, hs]; omega) | rfl)) rfl hS ?_
        refine q_val (fun w hS => e_move (v := .int _ _) rfl) rfl hS ?_
        refine q_val (fun w hS => e_move (v := .int _ _) rfl) rfl hS ?_
        refine q_does (d_call Try.func27 nm27 rfl rfl (l4sec_calls _ _ _ _ (by first | assumption | (simp [cat, length_lsec, length_lshown, hs]; done) | (simp [cat, length_lsec, length_lshown, hs]; omega) | rfl))) rfl ?_
        rintro _ w ⟨rfl, hB⟩
        have S := S.below hB
        have hS := S.pk [0, 1] rfl
        refine ⟨hS, ?_⟩
        refine q_valB (fun w hS => EqT.sum eq29 gd29 rfl rfl (by first | assumption | (simp [cat, length_lsec, length_lshown, hs]; done) | (simp [cat, length_lsec, length_lshown, hs]; omega) | rfl) (by first | assumption | (simp [cat, length_lsec, length_lshown, hs]; done) | (simp [cat, length_lsec, length_lshown, hs]; omega) | rfl)) rfl hS (fun hg39 => ?_) (fun hg39 => ?_)
        · refine q_val (fun w hS => e_move (v := .bool _) rfl) rfl hS ?_
          refine qg_val rfl rfl rfl rfl rfl (fun w hS => e_loadW 1 rfl ag29 sz29 hS rfl rfl (by first | assumption | (simp [cat, length_lsec, length_lshown, hs]; done) | (simp [cat, length_lsec, length_lshown, hs]; omega) | rfl)) hS ?_
          refine qg_val rfl rfl rfl rfl rfl (fun w hS => e_loadW 1 rfl ag29 sz29 hS rfl rfl (by first | assumption | (simp [cat, length_lsec, length_lshown, hs]; done) | (simp [cat, length_lsec, length_lshown, hs]; omega) | rfl)) hS ?_
          refine qg_does rfl rfl rfl rfl rfl (d_call Try.func36 nm36 rfl rfl (lshown_calls _ _ (by first | assumption | (simp [cat, length_lsec, length_lshown, hs]; done) | (simp [cat, length_lsec, length_lshown, hs]; omega) | rfl))) ?_
          rintro _ w ⟨rfl, hB⟩
          have S := S.below hB
          have hS := S.pk [0, 1] rfl
          refine ⟨hS, ?_⟩
          refine qg_does rfl rfl rfl rfl rfl (d_call Try.func28 nm28 rfl rfl (l4shown_calls _ _ (by first | assumption | (simp [cat, length_lsec, length_lshown, hs]; done) | (simp [cat, length_lsec, length_lshown, hs]; omega) | rfl))) ?_
          rintro _ w ⟨rfl, hB⟩
          have S := S.below hB
          have hS := S.pk [0, 1] rfl
          refine ⟨hS, ?_⟩
          refine qg_valB rfl rfl rfl rfl rfl (fun w hS => EqT.sum eq29 gd29 rfl rfl (by first | assumption | (simp [cat, length_lsec, length_lshown, hs]; done) | (simp [cat, length_lsec, length_lshown, hs]; omega) | rfl) (by first | assumption | (simp [cat, length_lsec, length_lshown, hs]; done) | (simp [cat, length_lsec, length_lshown, hs]; omega) | rfl)) hS (fun hg45 => ?_) (fun hg45 => ?_)
          · refine q_val (fun w hS => e_pick_t rfl rfl) rfl hS ?_
            refine q_val (fun w hS => e_move (v := .bool _) rfl) rfl hS ?_
            refine qg_does rfl rfl rfl rfl rfl (d_call Try.func34 nm34 rfl rfl (l4awake_calls _)) ?_
            rintro _ w ⟨rfl, hB⟩
            have S := S.below hB
            have hS := S.pk [0, 1] rfl
            refine ⟨hS, ?_⟩
            refine q_val (fun w hS => e_pick_t rfl rfl) rfl hS ?_
            refine q_nil ?_
            refine p_val (e_assign (v := .bool _) rfl) rfl ?_
            exact p_nil (x_then ⟨_, rfl, _, _, upds_eq ⟨rfl, trivial⟩, by first | (simp only [decide_eq_true_eq, eq_self, true_iff, iff_true, iff_false, Bool.false_eq_true, false_iff, ge_iff_le, gt_iff_lt, true_and, and_true, false_and, and_false, true_or, or_true, false_or, or_false, not_true_eq_false, not_false_eq_true]; omega) | simp | omega | simp_all, S⟩)
          · exact False.elim (hg45 rfl)
        · exact False.elim (hg39 (by rw [show b % 2 = b by omega]))
      · rintro f w ⟨u, b6, rfl, hb6, S⟩
        refine x_then (s_ret ?_)
        exact post1 (v := .bool _) Try.results6 rfl (⟨by rw [hb6.2 trivial], S.to_below⟩)
end Go.Proofs.Ytdhfiamgmokfbaa
