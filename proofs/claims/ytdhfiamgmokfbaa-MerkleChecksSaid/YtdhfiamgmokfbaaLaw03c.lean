/- The third law's statement on what is checked, walked. It proves no statement by itself. -/
import Derived.Test.YtdhfiamgmokfbaaLaw03
import Derived.Test.YtdhfiamgmokfbaaMerC
set_option linter.unusedSimpArgs false
set_option linter.unusedVariables false
set_option maxRecDepth 100000
set_option maxHeartbeats 1000000
namespace Go.Proofs.Ytdhfiamgmokfbaa
open Go Go.RowKit E
attribute [local irreducible] wpList seqH treeH
theorem mchecks_calls (w0 : World) (A : Option Addr) (c : Nat) (L : List (List Nat)) (R : Rd w0 32 A L.length (sv L)) (hL : All32 L) (cR : L.length ≤ c) :
    Ret Try.prog 9 [.slice A L.length c] w0 fun v w' => v = .bool true ∧ Below w0.heap.size w0 w' := by
  refine enter Try.func9 rfl Try.ntmps9 (Nat.le_of_ble_eq_true rfl) ?_
  have S := St.init w0
  obtain ⟨M, hMe⟩ : ∃ M, M = L.take 40 := ⟨_, rfl⟩
  have hMl : M.length = min 40 L.length := by rw [hMe, List.length_take]
  have hM : All32 M := hMe ▸ hL.take 40
  have RM : Rd w0 32 A M.length (sv M) := by { have h9 := Rd.take_sv (m := M.length) hL R (by omega); rw [hMl] at h9 ⊢; rw [hMe]; rw [show L.take (min 40 L.length) = L.take 40 by rw [← hMl, hMe]; simp] at h9; exact h9 }
  refine s_seq (s_plain ?_)
  refine p_val (e_assign (v := .bool _) rfl) rfl ?_
  refine p_nil (x_then (s_seq (s_plain ?_)))
  refine p_val (e_move (v := .slice _ _ _) rfl) rfl ?_
  refine p_does (d_call Try.func37 nm37 rfl rfl (few_gen _ _ _ _ _ cR hMe)) rfl ?_
  rintro _ w ⟨rfl, hB⟩
  have S := S.below hB
  refine p_val (e_assign (v := .slice _ _ _) rfl) rfl ?_
  refine p_nil (x_then (s_seq (s_plain ?_)))
  refine p_val (e_move (v := .slice _ _ _) rfl) rfl ?_
  refine p_does (d_call Try.func42 nm42 rfl rfl (mk_root _ _ _ M (S.rdOld RM rfl) hM (by omega))) rfl ?_
  rintro _ w ⟨rfl, hB⟩
  have S := S.below hB
  refine p_does (d_allocA S zvS) rfl ?_
  rintro _ w ⟨b3, rfl, S⟩
  refine p_does (d_storeW S 0 rfl rfl (by first | exact bv_one _ | exact sv_one _ | exact iv_one _ | with_reducible assumption | (refine One.mem ?_; repeat (first | exact One.bv _ | exact One.sv _ | exact One.iv _ | exact One.nil | exact One.cat0 | refine One.cat1 ?_ ?_ | refine One.cons rfl ?_ | refine One.append ?_ ?_))) sz29 (by first | with_reducible assumption | (rw [bv_length]; with_reducible assumption) | (rw [List.size_toArray, bv_length]; with_reducible assumption) | (simp [cat, length_mroot]; done) | (simp [cat, length_mroot]; omega) | rfl) rfl rfl (by first | with_reducible assumption | (rw [bv_length]; with_reducible assumption) | (rw [List.size_toArray, bv_length]; with_reducible assumption) | (simp [cat, length_mroot]; done) | (simp [cat, length_mroot]; omega) | rfl)) rfl ?_
  intro _ w S
  refine p_nil (x_then (s_seq (s_seq (s_plain ?_))))
  refine p_val (e_assign (v := .int _ _) rfl) rfl ?_
  refine p_nil (x_then (s_block ?_))
  refine s_loopK (α := Nat) (ks := [some b3]) (ps := [Ex _ _]) [(0, .slice _ _ _), (3, .pointer _)] ⟨rfl, rfl, trivial⟩ S (fun keep ks ps g f' w' => ∃ u, f' = upds u ((4, .int .i64 (g : Int)) :: keep) ∧ (g ≤ M.length) ∧ St w0 w' [] [some b3] [Ex (bv (mroot M)).toArray 29]) (fun g => M.length - g) (0) (⟨_, upds_eq ⟨rfl, rfl, rfl, trivial⟩, by first | omega | rfl | with_reducible assumption | (simp; done) | (simp; omega), S⟩) ?_
  rintro g f w ⟨u, rfl, hg, S⟩
  refine s_seq (s_seq (s_plain ?_))
  refine p_val (e_move (v := .int _ _) rfl) rfl ?_
  refine p_val (e_move (v := .slice _ _ _) rfl) rfl ?_
  refine p_val (e_len rfl Try.underlying24) rfl ?_
  refine p_val (e_lss rfl rfl) rfl ?_
  refine p_nil (x_then ?_)
  refine s_cond rfl (fun hc15 => ?_) (fun hc15 => ?_)
  · refine s_skip (x_then (s_seq (s_block (s_seq (s_plain ?_)))))
    refine p_val (e_move (v := .int _ _) rfl) rfl ?_
    refine p_val (e_move (v := .slice _ _ _) rfl) rfl ?_
    refine p_does (d_call Try.func41 nm41 rfl rfl (mk_path _ _ _ _ M (S.rdOld RM rfl) hM (by omega))) rfl ?_
    rintro _ w ⟨k21, c21, rfl, T⟩
    have S := S.merge T rfl
    refine p_val (e_move (v := .tuple _) rfl) rfl ?_
    refine p_val (e_extract rfl rfl) rfl ?_
    refine p_val (e_extract rfl rfl) rfl ?_
    refine p_val (e_assign (v := .slice _ _ _) rfl) rfl ?_
    refine p_val (e_assign (v := .bool _) rfl) rfl ?_
    refine p_nil (x_then (s_seq (s_seq ?_)))
    refine s_cutK (ks := [k21, some b3]) (ps := [Rw _ _ _ _ _, Ex _ _]) [(0, .slice _ _ _), (3, .pointer _), (4, .int _ _), (5, .slice _ _ _)] ⟨rfl, rfl, rfl, rfl, trivial⟩ S (fun keep ks ps f' w' => ∃ u bb, f' = upds u ((38, .bool bb) :: keep) ∧ (bb = true ↔ False) ∧ St w0 w' [] ks ps) ?_ ?_
    · refine s_drawK (ks := [k21, some b3]) (ps := [Rw _ _ _ _ _, Ex _ _]) S [(true, 0), (true, 1), (true, 2), (true, 3), (true, 4), (true, 5), (true, 6), (true, 7), (true, 8), (true, 9), (true, 10), (true, 11), (false, 12), (true, 13), (true, 14)] [] [] mixed (by kernel_rfl) (by repeat (first | exact Calm.post _ _ _ | refine Calm.then ?_ _ | refine Calm.inB ?_ _)) (fun hS => ?_)
      have S := S.drew
      have hp32 : (M.getD (g : Int).toNat []).length = 32 := hM.getD (by omega)
      have hpl := mpath_len M (g : Int)
      rcases Classical.em (0 ≤ (g : Int) ∧ (g : Int) < (M.length : Int)) with hg24 | hg24
      · rw [decide_eq_true hg24]
        have hp32 : (M.getD (g : Int).toNat []).length = 32 := hM.getD (by omega)
        have hpl := mpath_len M (g : Int)
        refine q_val (fun w hS => e_move (v := .bool _) rfl) rfl hS ?_
        refine q_val (fun w hS => e_not rfl) rfl hS ?_
        refine q_val (fun w hS => e_move (v := .bool _) rfl) rfl hS ?_
        refine qg_val rfl rfl rfl rfl rfl (fun w hS => e_loadW 1 rfl ag29 sz29 hS rfl rfl (by first | with_reducible assumption | (rw [bv_length]; with_reducible assumption) | (rw [List.size_toArray, bv_length]; with_reducible assumption) | (simp [cat, length_mroot]; done) | (simp [cat, length_mroot]; omega) | rfl)) hS ?_
        refine qg_val rfl rfl rfl rfl rfl (fun w hS => e_move (v := .slice _ _ _) rfl) hS ?_
        refine qg_val rfl rfl rfl rfl rfl (fun w hS => e_move (v := .int _ _) rfl) hS ?_
        refine qg_val rfl rfl rfl rfl rfl (fun w hS => e_ixR (hS.rdOld RM rfl) (by decide) rfl rfl Try.underlying24 sz29 (by omega)) hS ?_
        refine qg_val rfl rfl rfl rfl rfl (fun w hS => e_loadRA rfl ag29 sz29 (by decide) (Rd.sumA (hS.rdOld RM rfl) (by with_reducible assumption) (by omega))) hS ?_
        refine qg_val rfl rfl rfl rfl rfl (fun w hS => e_move (v := .int _ _) rfl) hS ?_
        refine qg_val rfl rfl rfl rfl rfl (fun w hS => e_move (v := .slice _ _ _) rfl) hS ?_
        refine qg_val rfl rfl rfl rfl rfl (fun w hS => e_len rfl Try.underlying24) hS ?_
        refine qg_val rfl rfl rfl rfl rfl (fun w hS => e_move (v := .slice _ _ _) rfl) hS ?_
        refine qg_does rfl rfl rfl rfl rfl (d_call Try.func38 nm38 rfl rfl (mk_check _ _ _ _ _ _ _ (mpath M (g : Int)) (length_mroot _) hp32 (S.rdRw 0 rfl rfl) (mpath_all _ _) (S.capRw 0 rfl rfl))) ?_
        rintro _ w ⟨rfl, hB⟩
        have S := S.below hB
        have hS := S.pk [0, 1] rfl
        refine ⟨hS, ?_⟩
        rcases Classical.em (mcheck (mroot M) (M.getD (g : Int).toNat []) (g : Int) (M.length : Int) (mpath M (g : Int))) with hg36 | hg36
        · rw [decide_eq_true hg36]
          refine qg_val rfl rfl rfl rfl rfl (fun w hS => e_not rfl) hS ?_
          refine q_val (fun w hS => e_pick_f rfl rfl) rfl hS ?_
          refine q_nil ?_
          exact p_nil (x_then ⟨_, rfl, _, _, upds_eq ⟨rfl, rfl, rfl, rfl, rfl, trivial⟩, by first | (simp only [decide_eq_true_eq, eq_self, true_iff, iff_true, iff_false, Bool.false_eq_true, false_iff, ge_iff_le, gt_iff_lt, true_and, and_true, false_and, and_false, true_or, or_true, false_or, or_false, not_true_eq_false, not_false_eq_true]; omega) | simp | omega | simp_all, S⟩)
        · exact False.elim (hg36 (by rw [Int.toNat_natCast]; exact mcheck_path (by omega) (by omega)))
      · rw [decide_eq_false hg24]
        have hp32 : (M.getD (g : Int).toNat []).length = 32 := hM.getD (by omega)
        have hpl := mpath_len M (g : Int)
        refine q_val (fun w hS => e_move (v := .bool _) rfl) rfl hS ?_
        refine q_val (fun w hS => e_not rfl) rfl hS ?_
        refine q_val (fun w hS => e_move (v := .bool _) rfl) rfl hS ?_
        refine q_no rfl rfl rfl rfl rfl hS ?_
        refine q_no rfl rfl rfl rfl rfl hS ?_
        refine q_no rfl rfl rfl rfl rfl hS ?_
        refine q_no rfl rfl rfl rfl rfl hS ?_
        refine q_no rfl rfl rfl rfl rfl hS ?_
        refine q_no rfl rfl rfl rfl rfl hS ?_
        refine q_no rfl rfl rfl rfl rfl hS ?_
        refine q_no rfl rfl rfl rfl rfl hS ?_
        refine q_no rfl rfl rfl rfl rfl hS ?_
        refine q_no rfl rfl rfl rfl rfl hS ?_
        refine q_no rfl rfl rfl rfl rfl hS ?_
        refine q_val (fun w hS => e_pick_t rfl rfl) rfl hS ?_
        refine q_nil ?_
        exact p_nil (x_then ⟨_, rfl, _, _, upds_eq ⟨rfl, rfl, rfl, rfl, rfl, trivial⟩, by first | (simp only [decide_eq_true_eq, eq_self, true_iff, iff_true, iff_false, Bool.false_eq_true, false_iff, ge_iff_le, gt_iff_lt, true_and, and_true, false_and, and_false, true_or, or_true, false_or, or_false, not_true_eq_false, not_false_eq_true]; omega) | simp | omega | simp_all, S⟩)
    · rintro f w ⟨u, b38, rfl, hb38, S⟩
      refine x_then ?_
      refine s_condb rfl (fun hc38 => ?_) (fun hc38 => ?_)
      · have hp38 : False := hb38.1 hc38
        refine s_seq (s_plain ?_)
        refine p_val (e_assign (v := .bool _) rfl) rfl ?_
        refine p_nil (x_then (s_ret (x_then_ret (x_in_ret (x_then_ret (x_then_ret (x_in_ret (x_then_ret ?_))))))))
        exact post1 (v := .bool _) Try.results9 rfl (hp38.elim)
      · have hp38 : ¬ False := fun h => by rw [hb38.2 h] at hc38; cases hc38
        refine s_skip (x_then (s_seq (s_plain ?_)))
        have hpl := mpath_len M (g : Int)
        refine p_does (d_litS S Try.underlying24 sz29 zv29 rfl (L := []) rfl rfl (by intro x hx; simp at hx) (by decide)) rfl ?_
        rintro _ w ⟨b39, rfl, S⟩
        refine p_val (e_move (v := .slice _ _ _) rfl) rfl ?_
        refine p_does (d_append S 0 rfl rfl Try.underlying24 el29 rfl rfl (S.rdRw 1 rfl rfl) (by first | exact bv_one _ | exact sv_one _ | exact iv_one _ | with_reducible assumption | (refine One.mem ?_; repeat (first | exact One.bv _ | exact One.sv _ | exact One.iv _ | exact One.nil | exact One.cat0 | refine One.cat1 ?_ ?_ | refine One.cons rfl ?_ | refine One.append ?_ ?_))) (by first | omega | (simp only [List.length_append, List.length_cons, List.length_nil, bv_length, length_mroot]; omega) | (simp [cat, length_mroot]; omega)) (by unfold maxLen; first | omega | (simp only [List.length_append, List.length_cons, List.length_nil, bv_length, length_mroot]; omega))) rfl ?_
        rintro _ w ⟨k41, c41, rfl, S⟩
        refine p_val (e_assign (v := .slice _ _ _) rfl) rfl ?_
        refine p_nil (x_then (s_seq (s_plain ?_)))
        refine p_val (e_move (v := .slice _ _ _) rfl) rfl ?_
        refine p_val (e_loadW 2 rfl ag29 sz29 S rfl rfl (by first | with_reducible assumption | (rw [bv_length]; with_reducible assumption) | (rw [List.size_toArray, bv_length]; with_reducible assumption) | (simp [cat, length_mroot]; done) | (simp [cat, length_mroot]; omega) | rfl)) rfl ?_
        refine p_does (d_litS S Try.underlying24 sz29 zv29 rfl (L := [_]) rfl rfl (by intro x hx; simp at hx; simp [hx, length_mroot]) (by decide)) rfl ?_
        rintro _ w ⟨b44, rfl, S⟩
        refine p_does (d_append S 1 rfl rfl Try.underlying24 el29 rfl rfl (S.rdRw 0 rfl rfl) (by first | exact bv_one _ | exact sv_one _ | exact iv_one _ | with_reducible assumption | (refine One.mem ?_; repeat (first | exact One.bv _ | exact One.sv _ | exact One.iv _ | exact One.nil | exact One.cat0 | refine One.cat1 ?_ ?_ | refine One.cons rfl ?_ | refine One.append ?_ ?_))) (by first | omega | (simp only [List.length_append, List.length_cons, List.length_nil, bv_length, length_mroot]; omega) | (simp [cat, length_mroot]; omega)) (by unfold maxLen; first | omega | (simp only [List.length_append, List.length_cons, List.length_nil, bv_length, length_mroot]; omega))) rfl ?_
        rintro _ w ⟨k45, c45, rfl, S⟩
        refine p_val (e_assign (v := .slice _ _ _) rfl) rfl ?_
        refine p_nil (x_then (s_seq ?_))
        refine s_cutK (ks := [some b44, k45, k21, some b3]) (ps := [Rw _ _ _ _ _, Rw _ _ _ _ _, Rw _ _ _ _ _, Ex _ _]) [(0, .slice _ _ _), (3, .pointer _), (4, .int _ _)] ⟨rfl, rfl, rfl, trivial⟩ S (fun keep ks ps f' w' => ∃ u bb, f' = upds u ((73, .bool bb) :: keep) ∧ (bb = true ↔ False) ∧ St w0 w' [] ks ps) ?_ ?_
        · refine s_drawK (ks := [some b44, k45, k21, some b3]) (ps := [Rw _ _ _ _ _, Rw _ _ _ _ _, Rw _ _ _ _ _, Ex _ _]) S [(true, 0), (true, 1), (true, 2), (true, 3), (true, 4), (true, 5), (true, 6), (true, 7), (true, 8), (false, 9), (true, 10), (true, 11), (true, 12), (true, 13), (true, 14), (true, 15), (true, 16), (true, 17), (true, 18), (true, 19), (true, 20), (true, 21), (true, 22), (true, 23), (true, 24), (false, 25), (true, 26), (true, 27)] [] [] mixed (by kernel_rfl) (by repeat (first | exact Calm.post _ _ _ | refine Calm.then ?_ _ | refine Calm.inB ?_ _)) (fun hS => ?_)
          have S := S.drew
          have hcap := S.capRw 2 rfl rfl
          have hma := mpath_all M (g : Int)
          have hp32 : (M.getD (g : Int).toNat []).length = 32 := hM.getD (by omega)
          refine q_val (fun w hS => e_loadW 3 rfl ag29 sz29 hS rfl rfl (by first | with_reducible assumption | (rw [bv_length]; with_reducible assumption) | (rw [List.size_toArray, bv_length]; with_reducible assumption) | (simp [cat, length_mroot]; done) | (simp [cat, length_mroot]; omega) | rfl)) rfl hS ?_
          refine q_val (fun w hS => e_move (v := .slice _ _ _) rfl) rfl hS ?_
          refine q_val (fun w hS => e_move (v := .int _ _) rfl) rfl hS ?_
          refine q_val (fun w hS => e_ixR (hS.rdOld RM rfl) (by decide) rfl rfl Try.underlying24 sz29 (by omega)) rfl hS ?_
          refine q_val (fun w hS => e_loadRA rfl ag29 sz29 (by decide) (Rd.sumA (hS.rdOld RM rfl) (by with_reducible assumption) (by omega))) rfl hS ?_
          refine q_val (fun w hS => e_move (v := .int _ _) rfl) rfl hS ?_
          refine q_val (fun w hS => e_move (v := .slice _ _ _) rfl) rfl hS ?_
          refine q_val (fun w hS => e_len rfl Try.underlying24) rfl hS ?_
          refine q_val (fun w hS => e_move (v := .slice _ _ _) rfl) rfl hS ?_
          refine q_does (d_call Try.func38 nm38 rfl rfl (mk_check_n _ _ _ _ _ _ _ _ (mpath M (g : Int) ++ [mroot M]) (by simp) (length_mroot _) hp32 (by rw [sv_append]; exact (S.rdRw 1 rfl rfl)) ((mpath_all _ _).append (All32.single (length_mroot _))) (S.capRw 1 rfl rfl))) rfl ?_
          rintro _ w ⟨rfl, hB⟩
          have S := S.below hB
          have hS := S.pk [0, 1, 2, 3] rfl
          refine ⟨hS, ?_⟩
          rcases Classical.em (mcheck (mroot M) (M.getD (g : Int).toNat []) (g : Int) (M.length : Int) (mpath M (g : Int) ++ [mroot M])) with hg55 | hg55
          · exact False.elim (by rw [Int.toNat_natCast] at hg55; exact mcheck_no (by omega) (by omega) (by simp) _ hg55)
          · rw [decide_eq_false hg55]
            refine q_val (fun w hS => e_move (v := .bool _) rfl) rfl hS ?_
            refine qg_val rfl rfl rfl rfl rfl (fun w hS => e_move (v := .slice _ _ _) rfl) hS ?_
            refine qg_val rfl rfl rfl rfl rfl (fun w hS => e_len rfl Try.underlying24) hS ?_
            refine qg_valB rfl rfl rfl rfl rfl (fun w hS => e_gtr rfl rfl) hS (fun hg59 => ?_) (fun hg59 => ?_)
            · refine qg_val rfl rfl rfl rfl rfl (fun w hS => e_move (v := .bool _) rfl) hS ?_
              refine qg_val rfl rfl rfl rfl rfl (fun w hS => e_loadW 3 rfl ag29 sz29 hS rfl rfl (by first | with_reducible assumption | (rw [bv_length]; with_reducible assumption) | (rw [List.size_toArray, bv_length]; with_reducible assumption) | (simp [cat, length_mroot]; done) | (simp [cat, length_mroot]; omega) | rfl)) hS ?_
              refine qg_val rfl rfl rfl rfl rfl (fun w hS => e_move (v := .slice _ _ _) rfl) hS ?_
              refine qg_val rfl rfl rfl rfl rfl (fun w hS => e_move (v := .int _ _) rfl) hS ?_
              refine qg_val rfl rfl rfl rfl rfl (fun w hS => e_ixR (hS.rdOld RM rfl) (by decide) rfl rfl Try.underlying24 sz29 (by omega)) hS ?_
              refine qg_val rfl rfl rfl rfl rfl (fun w hS => e_loadRA rfl ag29 sz29 (by decide) (Rd.sumA (hS.rdOld RM rfl) (by with_reducible assumption) (by omega))) hS ?_
              refine qg_val rfl rfl rfl rfl rfl (fun w hS => e_move (v := .int _ _) rfl) hS ?_
              refine qg_val rfl rfl rfl rfl rfl (fun w hS => e_move (v := .slice _ _ _) rfl) hS ?_
              refine qg_val rfl rfl rfl rfl rfl (fun w hS => e_len rfl Try.underlying24) hS ?_
              refine qg_val rfl rfl rfl rfl rfl (fun w hS => e_move (v := .slice _ _ _) rfl) hS ?_
              refine qg_val rfl rfl rfl rfl rfl (fun w hS => e_sl_l (1) rfl rfl (rfl) (by omega) Try.underlying24 sz29) hS ?_
              refine qg_does rfl rfl rfl rfl rfl (d_call Try.func38 nm38 rfl rfl (mk_check_n _ _ _ _ _ _ _ _ ((mpath M (g : Int)).drop 1) (by simp) (length_mroot _) hp32 (Rd.drop_sv (by with_reducible assumption) (S.rdRw 2 rfl rfl) (by omega) (by omega)) ((mpath_all _ _).drop 1) (by omega))) ?_
              rintro _ w ⟨rfl, hB⟩
              have S := S.below hB
              have hS := S.pk [0, 1, 2, 3] rfl
              refine ⟨hS, ?_⟩
              rcases Classical.em (mcheck (mroot M) (M.getD (g : Int).toNat []) (g : Int) (M.length : Int) ((mpath M (g : Int)).drop 1)) with hg71 | hg71
              · exact False.elim (by rw [Int.toNat_natCast] at hg71; exact mcheck_no (by omega) (by omega) (by rw [List.length_drop]; omega) _ hg71)
              · rw [decide_eq_false hg71]
                refine qg_val rfl rfl rfl rfl rfl (fun w hS => e_pick_t rfl rfl) hS ?_
                refine q_val (fun w hS => e_pick_f rfl rfl) rfl hS ?_
                refine q_nil ?_
                exact p_nil (x_then ⟨_, rfl, _, _, upds_eq ⟨rfl, rfl, rfl, rfl, trivial⟩, by first | (simp only [decide_eq_true_eq, eq_self, true_iff, iff_true, iff_false, Bool.false_eq_true, false_iff, ge_iff_le, gt_iff_lt, true_and, and_true, false_and, and_false, true_or, or_true, false_or, or_false, not_true_eq_false, not_false_eq_true]; omega) | simp | omega | simp_all, S⟩)
            · refine qg_val rfl rfl rfl rfl rfl (fun w hS => e_move (v := .bool _) rfl) hS ?_
              refine q_no rfl rfl rfl rfl rfl hS ?_
              refine q_no rfl rfl rfl rfl rfl hS ?_
              refine q_no rfl rfl rfl rfl rfl hS ?_
              refine q_no rfl rfl rfl rfl rfl hS ?_
              refine q_no rfl rfl rfl rfl rfl hS ?_
              refine q_no rfl rfl rfl rfl rfl hS ?_
              refine q_no rfl rfl rfl rfl rfl hS ?_
              refine q_no rfl rfl rfl rfl rfl hS ?_
              refine q_no rfl rfl rfl rfl rfl hS ?_
              refine q_no rfl rfl rfl rfl rfl hS ?_
              refine q_no rfl rfl rfl rfl rfl hS ?_
              refine qg_val rfl rfl rfl rfl rfl (fun w hS => e_pick_f rfl rfl) hS ?_
              refine q_val (fun w hS => e_pick_f rfl rfl) rfl hS ?_
              refine q_nil ?_
              exact p_nil (x_then ⟨_, rfl, _, _, upds_eq ⟨rfl, rfl, rfl, rfl, trivial⟩, by first | (simp only [decide_eq_true_eq, eq_self, true_iff, iff_true, iff_false, Bool.false_eq_true, false_iff, ge_iff_le, gt_iff_lt, true_and, and_true, false_and, and_false, true_or, or_true, false_or, or_false, not_true_eq_false, not_false_eq_true]; omega) | simp | omega | simp_all, S⟩)
        · rintro f w ⟨u, b73, rfl, hb73, S⟩
          refine x_then ?_
          refine s_condb rfl (fun hc73 => ?_) (fun hc73 => ?_)
          · have hp73 : False := hb73.1 hc73
            refine s_seq (s_plain ?_)
            refine p_val (e_assign (v := .bool _) rfl) rfl ?_
            refine p_nil (x_then (s_ret (x_in_ret (x_then_ret (x_then_ret (x_in_ret (x_then_ret ?_)))))))
            exact post1 (v := .bool _) Try.results9 rfl (hp73.elim)
          · have hp73 : ¬ False := fun h => by rw [hb73.2 h] at hc73; cases hc73
            refine s_skip (x_in (x_then (s_plain ?_)))
            refine p_val (e_move (v := .int _ _) rfl) rfl ?_
            refine p_val (e_add64 rfl rfl (by omega)) rfl ?_
            refine p_val (e_assign (v := .int _ _) rfl) rfl ?_
            refine p_nil ?_
            refine x_round (g + 1) _ rfl ⟨_, upds_eq ⟨rfl, rfl, rfl, trivial⟩, by first | omega | rfl | with_reducible assumption | (simp; done) | (simp; omega), S.pk [3] rfl⟩ (by omega)
  · refine s_exit (x_then_exit (x_then_exit (x_in_same (x_then (s_seq (s_plain ?_))))))
    refine p_does (d_call Try.func39 nm39 rfl rfl (l3awake _)) rfl ?_
    rintro _ w ⟨rfl, hB⟩
    have S := S.below hB
    refine p_val (e_assign (v := .bool _) rfl) rfl ?_
    refine p_nil (x_then (s_ret ?_))
    exact post1 (v := .bool _) Try.results9 rfl (⟨rfl, S.to_below⟩)
theorem mchecks_n (w0 : World) (A : Option Addr) (n c : Nat) (L : List (List Nat)) (hn : L.length = n) (R : Rd w0 32 A n (sv L)) (hL : All32 L) (cR : n ≤ c) :
     Ret Try.prog 9 [.slice A n c] w0 fun v w' => v = .bool true ∧ Below w0.heap.size w0 w' := by
  subst hn; exact mchecks_calls w0 A c L R hL cR
end Go.Proofs.Ytdhfiamgmokfbaa
