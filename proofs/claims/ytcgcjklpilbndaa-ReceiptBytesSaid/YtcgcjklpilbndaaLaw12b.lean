/- Chapter 12's laws, walked. It proves no statement by itself. -/
import Derived.Test.YtcgcjklpilbndaaLaw12
set_option linter.unusedSimpArgs false
set_option linter.unusedVariables false
set_option maxRecDepth 100000
set_option maxHeartbeats 4000000
namespace Go.Proofs.Ytcgcjklpilbndaa
open Go Go.RowKit E
attribute [local irreducible] wpList seqH treeH
theorem rtexts_calls (w0 : World) (r : Rcp) (A : Option Addr) (n c : Nat) (l : List Nat) (hr : r.ok) (hbr : r.byt) (R : Rd w0 1 A n (bv l)) (hB : Bytes l) (hc : n ≤ c) :
    Ret Try.prog 5 [.agg (cat (rcpC r)).toArray, .slice A n c] w0 fun v w' => v = .bool true ∧ Below w0.heap.size w0 w' := by
  refine enter Try.func5 rfl Try.ntmps5 (Nat.le_of_ble_eq_true rfl) ?_
  have S := St.init w0
  have hln : l.length = n := by simpa using R.1
  have hrl := rtext_len hr
  refine s_seq (s_plain ?_)
  refine p_does (d_boxA S rfl) rfl ?_
  rintro _ w ⟨b2, rfl, S⟩
  refine p_val (e_assign (v := .bool _) rfl) rfl ?_
  refine p_nil (x_then (s_seq ?_))
  refine s_cutK (ks := [some b2]) (ps := [Ex _ _]) [(2, .pointer _)] ⟨rfl, trivial⟩ S (fun keep ks ps f' w' => ∃ u m l1, f' = upds u ((1, .slice A m c) :: keep) ∧ (m = List.length l1) ∧ (Rd w0 1 A (List.length l1) (bv l1)) ∧ (Bytes l1) ∧ (l1.length ≤ c) ∧ (l1.length ≤ 1099511000000) ∧ St w0 w' [] [some b2] [(ps.getD 0 fun _ => True)]) ?_ ?_
  · refine s_seq (s_plain ?_)
    refine p_val (e_move (v := .slice _ _ _) rfl) rfl ?_
    refine p_val (e_len rfl Try.underlying47) rfl ?_
    refine p_val (e_gtr rfl rfl) rfl ?_
    refine p_nil (x_then ?_)
    refine s_cond rfl (fun hc11 => ?_) (fun hc11 => ?_)
    · refine s_plain ?_
      refine p_val (e_move (v := .slice _ _ _) rfl) rfl ?_
      refine p_val (e_sl_h ((300)) rfl rfl (rfl) (by omega) Try.underlying47 sz5) rfl ?_
      refine p_val (e_assign (v := .slice _ _ _) rfl) rfl ?_
      refine p_nil ?_
      exact x_then ⟨_, rfl, _, _,  l.take 300, upds_eq ⟨rfl, rfl, trivial⟩, by rw [List.length_take]; omega, by rw [List.length_take, Nat.min_eq_left (by omega)]; exact Rd.take_bv R (by omega), fun x hx => hB x (List.mem_of_mem_take hx), by rw [List.length_take]; omega, by rw [List.length_take]; omega, S⟩
    · refine s_skip ?_
      exact x_then ⟨_, rfl, _, _,  l, upds_eq ⟨rfl, rfl, trivial⟩, hln.symm, by rw [hln]; exact R, hB, by first | omega | rfl | with_reducible assumption | (simp; done) | (simp; omega), by first | omega | rfl | with_reducible assumption | (simp; done) | (simp; omega), S⟩
  · rintro f w ⟨u, m, l1, rfl, rfl, R1, bR1, cR1, nR1, S⟩
    refine x_then (s_seq (s_plain ?_))
    refine p_val (e_loadW 0 rfl ag46 sz46 S rfl rfl (by first | with_reducible assumption | (simp [cat, rcpC, hr.1, hr.2, (rcp_ok _).1, (rcp_ok _).2]; done) | (simp [cat, rcpC, hr.1, hr.2, (rcp_ok _).1, (rcp_ok _).2]; omega) | rfl)) rfl ?_
    refine p_does (d_call Try.func20 nm20 rfl rfl (l12text _ _ (by with_reducible assumption))) rfl ?_
    rintro _ w ⟨k16, c16, rfl, T⟩
    have S := S.merge T rfl
    refine p_does (d_call Try.func19 nm19 rfl rfl (rc_read _ _ _ _ (S.rdRw 0 rfl rfl) (rtext_lt hbr) (S.capRw 0 rfl rfl) (by first | omega | (simp only [List.length_append, List.length_cons, List.length_nil, bv_length, rcpC, hr.1, hr.2, (rcp_ok _).1, (rcp_ok _).2]; omega) | (simp [cat, rcpC, hr.1, hr.2, (rcp_ok _).1, (rcp_ok _).2]; omega)))) rfl ?_
    rintro _ w ⟨rfl, hB⟩
    have S := S.below hB
    refine p_val (e_move (v := .tuple _) rfl) rfl ?_
    refine p_val (e_extract rfl rfl) rfl ?_
    refine p_val (e_extract rfl rfl) rfl ?_
    refine p_does (d_allocA S zs46) rfl ?_
    rintro _ w ⟨b5, rfl, S⟩
    refine p_does (d_storeW S 0 rfl rfl (by first | exact bv_one _ | exact sv_one _ | exact iv_one _ | with_reducible assumption | (refine One.mem ?_; repeat (first | exact One.bv _ | exact One.sv _ | exact One.iv _ | exact One.nil | exact One.cat0 | refine One.cat1 ?_ ?_ | refine One.cons rfl ?_ | refine One.append ?_ ?_))) sz46 (by first | with_reducible assumption | (simp [cat, rcpC, hr.1, hr.2, (rcp_ok _).1, (rcp_ok _).2]; done) | (simp [cat, rcpC, hr.1, hr.2, (rcp_ok _).1, (rcp_ok _).2]; omega) | rfl) rfl rfl (by first | with_reducible assumption | (simp [cat, rcpC, hr.1, hr.2, (rcp_ok _).1, (rcp_ok _).2]; done) | (simp [cat, rcpC, hr.1, hr.2, (rcp_ok _).1, (rcp_ok _).2]; omega) | rfl)) rfl ?_
    intro _ w S
    refine p_val (e_assign (v := .int _ _) rfl) rfl ?_
    refine p_nil (x_then (s_seq (s_seq ?_)))
    refine s_cutK (ks := [some b5, k16, some b2]) (ps := [Ex _ _, Rw _ _ _ _ _, Ex _ _]) [(1, .slice _ _ _), (2, .pointer _), (5, .pointer _), (6, .int _ _)] ⟨rfl, rfl, rfl, rfl, trivial⟩ S (fun keep ks ps f' w' => ∃ u bb, f' = upds u ((33, .bool bb) :: keep) ∧ (bb = true ↔ False) ∧ St w0 w' [] ks ps) ?_ ?_
    · refine s_drawTK (ks := [some b5, k16, some b2]) (ps := [Ex _ _, Rw _ _ _ _ _, Ex _ _]) S (.sq [(true, 0), (true, 3), (false, 1)] (.re (.sq [(true, 2), (false, 4)] (.re (.sq [(true, 5), (true, 6), (true, 7), (true, 8), (true, 10), (false, 9), (false, 11), (true, 12), (true, 13)] .stop))))) [] [] mixed (by kernel_rfl) (by repeat (first | exact Calm.post _ _ _ | refine Calm.then ?_ _ | refine Calm.inB ?_ _)) (fun hS => ?_)
      have S := S.drew
      refine t_sq ?_
      refine q_val (fun w hS => e_loadW 2 rfl ag46 sz46 hS rfl rfl (by first | with_reducible assumption | (simp [cat, rcpC, hr.1, hr.2, (rcp_ok _).1, (rcp_ok _).2]; done) | (simp [cat, rcpC, hr.1, hr.2, (rcp_ok _).1, (rcp_ok _).2]; omega) | rfl)) rfl hS ?_
      refine q_val (fun w hS => e_loadW 2 rfl ag46 sz46 hS rfl rfl (by first | with_reducible assumption | (simp [cat, rcpC, hr.1, hr.2, (rcp_ok _).1, (rcp_ok _).2]; done) | (simp [cat, rcpC, hr.1, hr.2, (rcp_ok _).1, (rcp_ok _).2]; omega) | rfl)) rfl hS ?_
      refine q_does (d_call Try.func21 nm21 rfl rfl (rc_text _ _ (by with_reducible assumption))) rfl ?_
      rintro _ w ⟨k21, c21, rfl, T⟩
      have S := S.merge T rfl
      have hS := S.pk [1, 2, 3] rfl
      refine ⟨hS, ?_⟩
      refine q_nil ?_
      refine t_reK (ks := [some b5, k16, some b2, k21]) (ps := [Ex _ _, Rw _ _ _ _ _, Ex _ _, Rw _ _ _ _ _]) (S.pk [1, 2, 3, 0] rfl) (fun w' h => h.pk [0, 1, 2] rfl) (fun hS => ?_)
      refine t_sq ?_
      refine q_val (fun w hS => e_bytesStr rfl Try.underlying47 Try.underlying5 Try.underlying9 ((hS.rdRw 3 rfl rfl))) rfl hS ?_
      refine q_does (d_call Try.func20 nm20 rfl rfl (l12text _ _ (by with_reducible assumption))) rfl ?_
      rintro _ w ⟨k24, c24, rfl, T⟩
      have S := S.merge T rfl
      have hS := S.pk [2, 3, 4, 1] rfl
      refine ⟨hS, ?_⟩
      refine q_nil ?_
      refine t_reK (ks := [some b5, k16, some b2, k21, k24]) (ps := [Ex _ _, Rw _ _ _ _ _, Ex _ _, Rw _ _ _ _ _, Rw _ _ _ _ _]) (S.pk [2, 3, 4, 1, 0] rfl) (fun w' h => h.pk [0, 1, 2, 3] rfl) (fun hS => ?_)
      refine t_sq ?_
      refine q_val (fun w hS => e_bytesStr rfl Try.underlying47 Try.underlying5 Try.underlying9 ((hS.rdRw 4 rfl rfl))) rfl hS ?_
      refine q_valB (fun w hS => e_neqT rfl rfl (by first | with_reducible assumption | exact rtext_lt hbr) (by first | with_reducible assumption | exact rtext_lt hbr)) rfl hS (fun hg26 => ?_) (fun hg26 => ?_)
      · exact False.elim (hg26 rfl)
      · refine q_val (fun w hS => e_move (v := .bool _) rfl) rfl hS ?_
        refine qg_val rfl rfl rfl rfl rfl (fun w hS => e_loadW 2 rfl ag46 sz46 hS rfl rfl (by first | with_reducible assumption | (simp [cat, rcpC, hr.1, hr.2, (rcp_ok _).1, (rcp_ok _).2]; done) | (simp [cat, rcpC, hr.1, hr.2, (rcp_ok _).1, (rcp_ok _).2]; omega) | rfl)) hS ?_
        refine qg_val rfl rfl rfl rfl rfl (fun w hS => e_loadW 2 rfl ag46 sz46 hS rfl rfl (by first | with_reducible assumption | (simp [cat, rcpC, hr.1, hr.2, (rcp_ok _).1, (rcp_ok _).2]; done) | (simp [cat, rcpC, hr.1, hr.2, (rcp_ok _).1, (rcp_ok _).2]; omega) | rfl)) hS ?_
        refine qg_does rfl rfl rfl rfl rfl (d_call Try.func22 nm22 rfl rfl (rc_right _ _ (by with_reducible assumption))) ?_
        rintro _ w ⟨rfl, hB⟩
        have S := S.below hB
        have hS := S.pk [2, 3, 4, 1, 0] rfl
        refine ⟨hS, ?_⟩
        refine qg_does rfl rfl rfl rfl rfl (d_call Try.func23 nm23 rfl rfl (l12right _ _ (by with_reducible assumption))) ?_
        rintro _ w ⟨rfl, hB⟩
        have S := S.below hB
        have hS := S.pk [2, 3, 4, 1, 0] rfl
        refine ⟨hS, ?_⟩
        refine qg_val rfl rfl rfl rfl rfl (fun w hS => e_neqB rfl rfl Try.underlying4) hS ?_
        refine q_val (fun w hS => e_pick_f rfl rfl) rfl hS ?_
        refine q_nil ?_
        refine t_stop ?_
        exact p_nil (x_then ⟨_, rfl, _, _, upds_eq ⟨rfl, rfl, rfl, rfl, rfl, trivial⟩, by first | (simp only [decide_eq_true_eq, eq_self, true_iff, iff_true, iff_false, Bool.false_eq_true, false_iff, ge_iff_le, gt_iff_lt, true_and, and_true, false_and, and_false, true_or, or_true, false_or, or_false, not_true_eq_false, not_false_eq_true]; omega) | simp | omega | simp_all, S.pk [2, 3, 4] rfl⟩)
    · rintro f w ⟨u, b33, rfl, hb33, S⟩
      refine x_then ?_
      refine s_condb rfl (fun hc33 => ?_) (fun hc33 => ?_)
      · exact False.elim (hb33.1 hc33)
      · have hp33 : ¬ False := fun h => by rw [hb33.2 h] at hc33; cases hc33
        refine s_skip (x_then (s_seq (s_seq ?_)))
        refine s_cutK (ks := [some b5, k16, some b2]) (ps := [Ex _ _, Rw _ _ _ _ _, Ex _ _]) [(1, .slice _ _ _), (2, .pointer _)] ⟨rfl, rfl, trivial⟩ S (fun keep ks ps f' w' => ∃ u bb, f' = upds u ((44, .bool bb) :: keep) ∧ (bb = true ↔ False) ∧ St w0 w' [] ks ps) ?_ ?_
        · refine s_plain ?_
          refine p_val (e_loadW 2 rfl ag46 sz46 S rfl rfl (by first | with_reducible assumption | (simp [cat, rcpC, hr.1, hr.2, (rcp_ok _).1, (rcp_ok _).2]; done) | (simp [cat, rcpC, hr.1, hr.2, (rcp_ok _).1, (rcp_ok _).2]; omega) | rfl)) rfl ?_
          refine p_does (d_call Try.func23 nm23 rfl rfl (l12right _ _ (by with_reducible assumption))) rfl ?_
          rintro _ w ⟨rfl, hB⟩
          have S := S.below hB
          rcases Classical.em (r.right) with hg35 | hg35
          · rw [decide_eq_true hg35]
            refine p_val (e_move (v := .bool _) rfl) rfl ?_
            refine pg_val rfl rfl rfl rfl rfl (e_loadW 0 rfl ag46 sz46 S rfl rfl (by first | with_reducible assumption | (simp [cat, rcpC, hr.1, hr.2, (rcp_ok _).1, (rcp_ok _).2]; done) | (simp [cat, rcpC, hr.1, hr.2, (rcp_ok _).1, (rcp_ok _).2]; omega) | rfl)) ?_
            refine pg_val rfl rfl rfl rfl rfl (e_loadW 2 rfl ag46 sz46 S rfl rfl (by first | with_reducible assumption | (simp [cat, rcpC, hr.1, hr.2, (rcp_ok _).1, (rcp_ok _).2]; done) | (simp [cat, rcpC, hr.1, hr.2, (rcp_ok _).1, (rcp_ok _).2]; omega) | rfl)) ?_
            refine pg_valB rfl rfl rfl rfl rfl (e_neqV (eqRcp _ _ (rcp_ok _) hr) (by decide) gd46 rfl rfl) (fun hg39 => ?_) (fun hg39 => ?_)
            · exact False.elim (hg39 (by rw [rcp_back hr hg35]))
            · refine pg_val rfl rfl rfl rfl rfl (e_move (v := .bool _) rfl) ?_
              refine pg_val rfl rfl rfl rfl rfl (e_move (v := .int _ _) rfl) ?_
              refine pg_val rfl rfl rfl rfl rfl (e_neq rfl rfl) ?_
              refine pg_val rfl rfl rfl rfl rfl (e_pick_f rfl rfl) ?_
              refine p_val (e_pick_t rfl rfl) rfl ?_
              exact p_nil (x_then ⟨_, rfl, _, _, upds_eq ⟨rfl, rfl, rfl, trivial⟩, by first | (simp; done) | simp [rcp_back hr hg35], S⟩)
          · rw [decide_eq_false hg35]
            refine p_val (e_move (v := .bool _) rfl) rfl ?_
            refine p_no rfl rfl rfl rfl rfl ?_
            refine p_no rfl rfl rfl rfl rfl ?_
            refine p_no rfl rfl rfl rfl rfl ?_
            refine p_no rfl rfl rfl rfl rfl ?_
            refine p_noU rfl rfl rfl rfl ?_
            refine p_noU rfl rfl rfl rfl ?_
            refine p_no rfl rfl rfl rfl rfl ?_
            refine p_val (e_pick_f rfl rfl) rfl ?_
            exact p_nil (x_then ⟨_, rfl, _, _, upds_eq ⟨rfl, rfl, rfl, trivial⟩, by first | (simp; done) | simp [rcp_back hr hg35], S⟩)
        · rintro f w ⟨u, b44, rfl, hb44, S⟩
          refine x_then ?_
          refine s_condb rfl (fun hc44 => ?_) (fun hc44 => ?_)
          · exact False.elim (hb44.1 hc44)
          · have hp44 : ¬ False := fun h => by rw [hb44.2 h] at hc44; cases hc44
            refine s_skip (x_then (s_seq (s_plain ?_)))
            refine p_val (e_move (v := .slice _ _ _) rfl) rfl ?_
            refine p_does (d_call Try.func19 nm19 rfl rfl (rc_read _ _ _ _ (S.rdOld R1 rfl) bR1 (by omega) (by first | omega | (simp only [List.length_append, List.length_cons, List.length_nil, bv_length, rcpC, hr.1, hr.2, (rcp_ok _).1, (rcp_ok _).2]; omega) | (simp [cat, rcpC, hr.1, hr.2, (rcp_ok _).1, (rcp_ok _).2]; omega)))) rfl ?_
            rintro _ w ⟨rfl, hB⟩
            have S := S.below hB
            refine p_val (e_move (v := .tuple _) rfl) rfl ?_
            refine p_val (e_extract rfl rfl) rfl ?_
            refine p_val (e_extract rfl rfl) rfl ?_
            refine p_does (d_allocA S zs46) rfl ?_
            rintro _ w ⟨b7, rfl, S⟩
            refine p_does (d_storeW S 0 rfl rfl (by first | exact bv_one _ | exact sv_one _ | exact iv_one _ | with_reducible assumption | (refine One.mem ?_; repeat (first | exact One.bv _ | exact One.sv _ | exact One.iv _ | exact One.nil | exact One.cat0 | refine One.cat1 ?_ ?_ | refine One.cons rfl ?_ | refine One.append ?_ ?_))) sz46 (by first | with_reducible assumption | (simp [cat, rcpC, hr.1, hr.2, (rcp_ok _).1, (rcp_ok _).2]; done) | (simp [cat, rcpC, hr.1, hr.2, (rcp_ok _).1, (rcp_ok _).2]; omega) | rfl) rfl rfl (by first | with_reducible assumption | (simp [cat, rcpC, hr.1, hr.2, (rcp_ok _).1, (rcp_ok _).2]; done) | (simp [cat, rcpC, hr.1, hr.2, (rcp_ok _).1, (rcp_ok _).2]; omega) | rfl)) rfl ?_
            intro _ w S
            refine p_val (e_assign (v := .int _ _) rfl) rfl ?_
            refine p_nil (x_then (s_seq (s_seq (s_plain ?_))))
            refine p_val (e_move (v := .int _ _) rfl) rfl ?_
            refine p_val (e_neq rfl rfl) rfl ?_
            refine p_nil (x_then ?_)
            refine s_cond rfl (fun hc51 => ?_) (fun hc51 => ?_)
            · refine s_seq ?_
              refine s_cutK (ks := [some b7, some b5, k16, some b2]) (ps := [Ex _ _, Ex _ _, Rw _ _ _ _ _, Ex _ _]) [] trivial S (fun keep ks ps f' w' => ∃ u bb, f' = upds u ((4, .bool bb) :: keep) ∧ (bb = true ↔ True) ∧ St w0 w' [] ks ps) ?_ ?_
              · refine s_drawTK (ks := [some b7, some b5, k16, some b2]) (ps := [Ex _ _, Ex _ _, Rw _ _ _ _ _, Ex _ _]) S (.sq [(true, 0), (true, 1), (true, 2), (true, 3), (true, 4), (false, 5), (true, 6), (true, 7), (true, 8), (true, 9), (true, 10), (false, 11)] (.re (.sq [(true, 12), (true, 13), (true, 14), (true, 15), (true, 16), (false, 17), (true, 18)] .stop))) [19] [19] mixed (by kernel_rfl) (by repeat (first | exact Calm.post _ _ _ | refine Calm.then ?_ _ | refine Calm.inB ?_ _)) (fun hS => ?_)
                have S := S.drew
                refine t_sq ?_
                refine q_val (fun w hS => e_loadW 0 rfl ag46 sz46 hS rfl rfl (by first | with_reducible assumption | (simp [cat, rcpC, hr.1, hr.2, (rcp_ok _).1, (rcp_ok _).2]; done) | (simp [cat, rcpC, hr.1, hr.2, (rcp_ok _).1, (rcp_ok _).2]; omega) | rfl)) rfl hS ?_
                refine q_val (fun w hS => e_buildS0 bt46) rfl hS ?_
                refine q_valB (fun w hS => e_eqlV (eqRcp _ Rcp.zero (rcp_ok _) zero_ok) (by decide) gd46 rfl rfl) rfl hS (fun hg54 => ?_) (fun hg54 => ?_)
                · refine q_val (fun w hS => e_move (v := .bool _) rfl) rfl hS ?_
                  refine qg_val rfl rfl rfl rfl rfl (fun w hS => e_loadW 3 rfl ag46 sz46 hS rfl rfl (by first | with_reducible assumption | (simp [cat, rcpC, hr.1, hr.2, (rcp_ok _).1, (rcp_ok _).2]; done) | (simp [cat, rcpC, hr.1, hr.2, (rcp_ok _).1, (rcp_ok _).2]; omega) | rfl)) hS ?_
                  refine qg_does rfl rfl rfl rfl rfl (d_call Try.func23 nm23 rfl rfl (l12right _ _ (by with_reducible assumption))) ?_
                  rintro _ w ⟨rfl, hB⟩
                  have S := S.below hB
                  have hS := S.pk [0, 1, 2, 3] rfl
                  refine ⟨hS, ?_⟩
                  rcases Classical.em (r.right) with hg57 | hg57
                  · rw [decide_eq_true hg57]
                    refine qg_val rfl rfl rfl rfl rfl (fun w hS => e_not rfl) hS ?_
                    refine qg_val rfl rfl rfl rfl rfl (fun w hS => e_move (v := .bool _) rfl) hS ?_
                    refine qg_val rfl rfl rfl rfl rfl (fun w hS => e_move (v := .slice _ _ _) rfl) hS ?_
                    refine qg_val rfl rfl rfl rfl rfl (fun w hS => e_bytesStr rfl Try.underlying47 Try.underlying5 Try.underlying9 ((hS.rdOld R1 rfl))) hS ?_
                    refine qg_val rfl rfl rfl rfl rfl (fun w hS => e_loadW 3 rfl ag46 sz46 hS rfl rfl (by first | with_reducible assumption | (simp [cat, rcpC, hr.1, hr.2, (rcp_ok _).1, (rcp_ok _).2]; done) | (simp [cat, rcpC, hr.1, hr.2, (rcp_ok _).1, (rcp_ok _).2]; omega) | rfl)) hS ?_
                    refine qg_does rfl rfl rfl rfl rfl (d_call Try.func20 nm20 rfl rfl (l12text _ _ (by with_reducible assumption))) ?_
                    rintro _ w ⟨k63, c63, rfl, T⟩
                    have S := S.merge T rfl
                    have hS := S.pk [1, 2, 3, 4] rfl
                    refine ⟨hS, ?_⟩
                    refine q_nil ?_
                    refine t_reK (ks := [some b7, some b5, k16, some b2, k63]) (ps := [Ex _ _, Ex _ _, Rw _ _ _ _ _, Ex _ _, Rw _ _ _ _ _]) (S.pk [1, 2, 3, 4, 0] rfl) (fun w' h => h.pk [0, 1, 2, 3] rfl) (fun hS => ?_)
                    refine t_sq ?_
                    refine qg_val rfl rfl rfl rfl rfl (fun w hS => e_bytesStr rfl Try.underlying47 Try.underlying5 Try.underlying9 ((hS.rdRw 4 rfl rfl))) hS ?_
                    refine qg_valB rfl rfl rfl rfl rfl (fun w hS => e_neqT rfl rfl (bR1) (by first | with_reducible assumption | exact rtext_lt hbr)) hS (fun hg65 => ?_) (fun hg65 => ?_)
                    · refine qg_val rfl rfl rfl rfl rfl (fun w hS => e_pick_f rfl rfl) hS ?_
                      refine q_val (fun w hS => e_pick_t rfl rfl) rfl hS ?_
                      refine q_val (fun w hS => e_move (v := .bool _) rfl) rfl hS ?_
                      refine qg_does rfl rfl rfl rfl rfl (d_call Try.func24 nm24 rfl rfl (l12awake _)) ?_
                      rintro _ w ⟨rfl, hB⟩
                      have S := S.below hB
                      have hS := S.pk [1, 2, 3, 4, 0] rfl
                      refine ⟨hS, ?_⟩
                      refine q_val (fun w hS => e_pick_t rfl rfl) rfl hS ?_
                      refine q_nil ?_
                      refine t_stop ?_
                      refine p_val (e_assign (v := .bool _) rfl) rfl ?_
                      exact p_nil (x_then ⟨_, rfl, _, _, upds_eq ⟨rfl, trivial⟩, by first | (simp only [decide_eq_true_eq, eq_self, true_iff, iff_true, iff_false, Bool.false_eq_true, false_iff, ge_iff_le, gt_iff_lt, true_and, and_true, false_and, and_false, true_or, or_true, false_or, or_false, not_true_eq_false, not_false_eq_true]; omega) | simp | omega | simp_all, S.pk [1, 2, 3, 4] rfl⟩)
                    · exact False.elim (hc51 (by rw [Classical.not_not.1 hg65, rcp_back hr hg57]))
                  · rw [decide_eq_false hg57]
                    refine qg_val rfl rfl rfl rfl rfl (fun w hS => e_not rfl) hS ?_
                    refine qg_val rfl rfl rfl rfl rfl (fun w hS => e_move (v := .bool _) rfl) hS ?_
                    refine q_no rfl rfl rfl rfl rfl hS ?_
                    refine q_no rfl rfl rfl rfl rfl hS ?_
                    refine q_no rfl rfl rfl rfl rfl hS ?_
                    refine q_no rfl rfl rfl rfl rfl hS ?_
                    refine q_nil ?_
                    refine t_reK (ks := [some b7, some b5, k16, some b2]) (ps := [Ex _ _, Ex _ _, Rw _ _ _ _ _, Ex _ _]) (S.pk [0, 1, 2, 3] rfl) (fun w' h => h.pk [0, 1, 2, 3] rfl) (fun hS => ?_)
                    refine t_sq ?_
                    refine q_no rfl rfl rfl rfl rfl hS ?_
                    refine q_no rfl rfl rfl rfl rfl hS ?_
                    refine qg_val rfl rfl rfl rfl rfl (fun w hS => e_pick_t rfl rfl) hS ?_
                    refine q_val (fun w hS => e_pick_t rfl rfl) rfl hS ?_
                    refine q_val (fun w hS => e_move (v := .bool _) rfl) rfl hS ?_
                    refine qg_does rfl rfl rfl rfl rfl (d_call Try.func24 nm24 rfl rfl (l12awake _)) ?_
                    rintro _ w ⟨rfl, hB⟩
                    have S := S.below hB
                    have hS := S.pk [0, 1, 2, 3] rfl
                    refine ⟨hS, ?_⟩
                    refine q_val (fun w hS => e_pick_t rfl rfl) rfl hS ?_
                    refine q_nil ?_
                    refine t_stop ?_
                    refine p_val (e_assign (v := .bool _) rfl) rfl ?_
                    exact p_nil (x_then ⟨_, rfl, _, _, upds_eq ⟨rfl, trivial⟩, by first | (simp only [decide_eq_true_eq, eq_self, true_iff, iff_true, iff_false, Bool.false_eq_true, false_iff, ge_iff_le, gt_iff_lt, true_and, and_true, false_and, and_false, true_or, or_true, false_or, or_false, not_true_eq_false, not_false_eq_true]; omega) | simp | omega | simp_all, S⟩)
                · exact False.elim (hg54 (rcp_zero hc51))
              · rintro f w ⟨u, b4, rfl, hb4, S⟩
                refine x_then (s_ret (x_then_ret ?_))
                exact post1 (v := .bool _) Try.results5 rfl (⟨by rw [hb4.2 trivial], S.to_below⟩)
            · have hq := rcp_inv bR1 (Classical.not_not.1 hc51)
              refine s_skip (x_then (s_seq ?_))
              refine s_cutK (ks := [some b7, some b5, k16, some b2]) (ps := [Ex _ _, Ex _ _, Rw _ _ _ _ _, Ex _ _]) [] trivial S (fun keep ks ps f' w' => ∃ u bb, f' = upds u ((4, .bool bb) :: keep) ∧ (bb = true ↔ True) ∧ St w0 w' [] ks ps) ?_ ?_
              · refine s_drawTK (ks := [some b7, some b5, k16, some b2]) (ps := [Ex _ _, Ex _ _, Rw _ _ _ _ _, Ex _ _]) S (.sq [(true, 0), (false, 1), (true, 2), (true, 3), (true, 6), (true, 7), (false, 4)] (.re (.sq [(true, 5), (true, 8), (true, 9), (true, 10), (false, 11), (true, 12)] .stop))) [13] [13] mixed (by kernel_rfl) (by repeat (first | exact Calm.post _ _ _ | refine Calm.then ?_ _ | refine Calm.inB ?_ _)) (fun hS => ?_)
                have S := S.drew
                refine t_sq ?_
                refine q_val (fun w hS => e_loadW 0 rfl ag46 sz46 hS rfl rfl (by first | with_reducible assumption | (simp [cat, rcpC, hr.1, hr.2, (rcp_ok _).1, (rcp_ok _).2]; done) | (simp [cat, rcpC, hr.1, hr.2, (rcp_ok _).1, (rcp_ok _).2]; omega) | rfl)) rfl hS ?_
                refine q_does (d_call Try.func23 nm23 rfl rfl (l12right _ _ (rcp_ok _))) rfl ?_
                rintro _ w ⟨rfl, hB⟩
                have S := S.below hB
                have hS := S.pk [0, 1, 2, 3] rfl
                refine ⟨hS, ?_⟩
                rcases Classical.em ((rRcp l1).1.right) with hg72 | hg72
                · rw [decide_eq_true hg72]
                  refine q_val (fun w hS => e_move (v := .bool _) rfl) rfl hS ?_
                  refine qg_val rfl rfl rfl rfl rfl (fun w hS => e_loadW 0 rfl ag46 sz46 hS rfl rfl (by first | with_reducible assumption | (simp [cat, rcpC, hr.1, hr.2, (rcp_ok _).1, (rcp_ok _).2]; done) | (simp [cat, rcpC, hr.1, hr.2, (rcp_ok _).1, (rcp_ok _).2]; omega) | rfl)) hS ?_
                  refine qg_val rfl rfl rfl rfl rfl (fun w hS => e_move (v := .slice _ _ _) rfl) hS ?_
                  refine qg_val rfl rfl rfl rfl rfl (fun w hS => e_bytesStr rfl Try.underlying47 Try.underlying5 Try.underlying9 ((hS.rdOld R1 rfl))) hS ?_
                  refine qg_does rfl rfl rfl rfl rfl (d_call Try.func20 nm20 rfl rfl (l12text _ _ (rcp_ok _))) ?_
                  rintro _ w ⟨k75, c75, rfl, T⟩
                  have S := S.merge T rfl
                  have hS := S.pk [1, 2, 3, 4] rfl
                  refine ⟨hS, ?_⟩
                  refine q_nil ?_
                  refine t_reK (ks := [some b7, some b5, k16, some b2, k75]) (ps := [Ex _ _, Ex _ _, Rw _ _ _ _ _, Ex _ _, Rw _ _ _ _ _]) (S.pk [1, 2, 3, 4, 0] rfl) (fun w' h => h.pk [0, 1, 2, 3] rfl) (fun hS => ?_)
                  refine t_sq ?_
                  refine qg_val rfl rfl rfl rfl rfl (fun w hS => e_bytesStr rfl Try.underlying47 Try.underlying5 Try.underlying9 ((hS.rdRw 4 rfl rfl))) hS ?_
                  refine qg_valB rfl rfl rfl rfl rfl (fun w hS => e_eqlT rfl rfl (by rw [hq.2.1]; exact bR1) (bR1)) hS (fun hg79 => ?_) (fun hg79 => ?_)
                  · refine q_val (fun w hS => e_pick_t rfl rfl) rfl hS ?_
                    refine q_val (fun w hS => e_move (v := .bool _) rfl) rfl hS ?_
                    refine qg_does rfl rfl rfl rfl rfl (d_call Try.func24 nm24 rfl rfl (l12awake _)) ?_
                    rintro _ w ⟨rfl, hB⟩
                    have S := S.below hB
                    have hS := S.pk [1, 2, 3, 4, 0] rfl
                    refine ⟨hS, ?_⟩
                    refine q_val (fun w hS => e_pick_t rfl rfl) rfl hS ?_
                    refine q_nil ?_
                    refine t_stop ?_
                    refine p_val (e_assign (v := .bool _) rfl) rfl ?_
                    exact p_nil (x_then ⟨_, rfl, _, _, upds_eq ⟨rfl, trivial⟩, by first | (simp only [decide_eq_true_eq, eq_self, true_iff, iff_true, iff_false, Bool.false_eq_true, false_iff, ge_iff_le, gt_iff_lt, true_and, and_true, false_and, and_false, true_or, or_true, false_or, or_false, not_true_eq_false, not_false_eq_true]; omega) | simp | omega | simp_all, S.pk [1, 2, 3, 4] rfl⟩)
                  · exact False.elim (hg79 hq.2.1)
                · exact False.elim (hg72 hq.1)
              · rintro f w ⟨u, b4, rfl, hb4, S⟩
                refine x_then (s_ret ?_)
                exact post1 (v := .bool _) Try.results5 rfl (⟨by rw [hb4.2 trivial], S.to_below⟩)
theorem rbytes_calls (w0 : World) (r : Rcp) (As : Option Addr) (cs : Nat) (s : List Nat) (A : Option Addr) (n c : Nat) (l : List Nat) (hr : r.ok) (hbr : r.byt) (R0 : Rd w0 1 As s.length (bv s)) (hbs : Bytes s) (R : Rd w0 1 A n (bv l)) (bR : Bytes l) (hc : n ≤ c) :
    Ret Try.prog 6 [.agg (cat (sgdC r As s.length cs)).toArray, .slice A n c] w0 fun v w' => v = .bool true ∧ Below w0.heap.size w0 w' := by
  refine enter Try.func6 rfl Try.ntmps6 (Nat.le_of_ble_eq_true rfl) ?_
  have S := St.init w0
  have hln : l.length = n := by simpa using R.1
  subst hln
  have hrl := rtext_len hr
  refine s_seq (s_plain ?_)
  refine p_does (d_boxA S rfl) rfl ?_
  rintro _ w ⟨b2, rfl, S⟩
  refine p_val (e_assign (v := .bool _) rfl) rfl ?_
  refine p_nil (x_then (s_seq (s_seq ?_)))
  refine s_cutK (ks := [some b2]) (ps := [Ex _ _]) [(1, .slice _ _ _), (2, .pointer _)] ⟨rfl, rfl, trivial⟩ S (fun keep ks ps f' w' => ∃ u bb, f' = upds u ((19, .bool bb) :: keep) ∧ (bb = true ↔ (((300 : Int) < ((s.length : Nat) : Int)) ∨ ((300 : Int) < ((l.length : Nat) : Int)))) ∧ St w0 w' [] ks ps) ?_ ?_
  · refine s_plain ?_
    refine p_val (e_field rfl Try.underlying54 rfl sz47 (by decide)) rfl ?_
    refine p_val (e_loadF1 (i := 5) (off := 67) rfl ag47 S (j := 0) rfl rfl rfl (by first | with_reducible assumption | (simp [cat, sgdC, rcpC, hr.1, hr.2, (sgd_ok _).1, (sgd_ok _).2]; done) | (simp [cat, sgdC, rcpC, hr.1, hr.2, (sgd_ok _).1, (sgd_ok _).2]; omega) | rfl)) rfl ?_
    refine p_val (e_len rfl Try.underlying47) rfl ?_
    refine p_valB (e_gtr rfl rfl) rfl (fun hg14 => ?_) (fun hg14 => ?_)
    · refine p_val (e_move (v := .bool _) rfl) rfl ?_
      refine p_no rfl rfl rfl rfl rfl ?_
      refine p_no rfl rfl rfl rfl rfl ?_
      refine p_no rfl rfl rfl rfl rfl ?_
      refine p_val (e_pick_t rfl rfl) rfl ?_
      exact p_nil (x_then ⟨_, rfl, _, _, upds_eq ⟨rfl, rfl, rfl, trivial⟩, by first | (simp only [decide_eq_true_eq, eq_self, true_iff, iff_true, iff_false, Bool.false_eq_true, false_iff, ge_iff_le, gt_iff_lt, true_and, and_true, false_and, and_false, true_or, or_true, false_or, or_false, not_true_eq_false, not_false_eq_true]; omega) | simp | omega | simp_all, S⟩)
    · refine p_val (e_move (v := .bool _) rfl) rfl ?_
      refine pg_val rfl rfl rfl rfl rfl (e_move (v := .slice _ _ _) rfl) ?_
      refine pg_val rfl rfl rfl rfl rfl (e_len rfl Try.underlying47) ?_
      refine pg_val rfl rfl rfl rfl rfl (e_gtr rfl rfl) ?_
      refine p_val (e_pick_f rfl rfl) rfl ?_
      exact p_nil (x_then ⟨_, rfl, _, _, upds_eq ⟨rfl, rfl, rfl, trivial⟩, by first | (simp only [decide_eq_true_eq, eq_self, true_iff, iff_true, iff_false, Bool.false_eq_true, false_iff, ge_iff_le, gt_iff_lt, true_and, and_true, false_and, and_false, true_or, or_true, false_or, or_false, not_true_eq_false, not_false_eq_true]; omega) | simp | omega | simp_all, S⟩)
  · rintro f w ⟨u, b19, rfl, hb19, S⟩
    refine x_then ?_
    refine s_condb rfl (fun hc19 => ?_) (fun hc19 => ?_)
    · have hp19 : (((300 : Int) < ((s.length : Nat) : Int)) ∨ ((300 : Int) < ((l.length : Nat) : Int))) := hb19.1 hc19
      refine s_seq (s_plain ?_)
      refine p_does (d_call Try.func24 nm24 rfl rfl (l12awake _)) rfl ?_
      rintro _ w ⟨rfl, hB⟩
      have S := S.below hB
      refine p_val (e_assign (v := .bool _) rfl) rfl ?_
      refine p_nil (x_then (s_ret (x_then_ret ?_)))
      exact post1 (v := .bool _) Try.results6 rfl (⟨rfl, S.to_below⟩)
    · have hp19 : ¬ (((300 : Int) < ((s.length : Nat) : Int)) ∨ ((300 : Int) < ((l.length : Nat) : Int))) := fun h => by rw [hb19.2 h] at hc19; cases hc19
      have nR : l.length ≤ 1099511000000 := by omega
      have cR : l.length ≤ c := hc
      have h2 := num_len (rtext r).length
      have h3 := num_len s.length
      have e : [] ++ num (rtext r).length ++ rtext r ++ num s.length ++ s = sput r s := by simp [sput]
      have hsl : (sput r s).length ≤ 1000 := by unfold sput; simp only [List.length_append]; omega
      refine s_skip (x_then (s_seq (s_plain ?_)))
      refine p_does (d_allocA S zs56) rfl ?_
      rintro _ w ⟨b5, rfl, S⟩
      have S := pen_new S
      refine p_nil (x_then (s_seq ?_))
      refine s_drawK (ks := [some b2]) (ps := [Ex _ _]) (S.pk [2] rfl) [(true, 0), (true, 1), (true, 4), (true, 5), (false, 2), (false, 3), (false, 6), (false, 7)] [8] [8] mixed (by kernel_rfl) (by repeat (first | exact Calm.post _ _ _ | refine Calm.then ?_ _ | refine Calm.inB ?_ _)) (fun hS => ?_)
      have S := S.drew
      refine q_val (fun w hS => e_field rfl Try.underlying54 rfl sz46 (by decide)) rfl hS ?_
      refine q_val (fun w hS => e_loadFS (i := 0) (n := 5) (off := 0) rfl ag46 sz46 (by decide) hS (j := 0) rfl rfl (by first | with_reducible assumption | (simp [cat, sgdC, rcpC, hr.1, hr.2, (sgd_ok _).1, (sgd_ok _).2]; done) | (simp [cat, sgdC, rcpC, hr.1, hr.2, (sgd_ok _).1, (sgd_ok _).2]; omega) | rfl) (by first | with_reducible assumption | (simp [cat, sgdC, rcpC, hr.1, hr.2, (sgd_ok _).1, (sgd_ok _).2]; done) | (simp [cat, sgdC, rcpC, hr.1, hr.2, (sgd_ok _).1, (sgd_ok _).2]; omega) | rfl)) rfl hS ?_
      refine q_val (fun w hS => e_field rfl Try.underlying54 rfl sz47 (by decide)) rfl hS ?_
      refine q_val (fun w hS => e_loadF1 (i := 5) (off := 67) rfl ag47 hS (j := 0) rfl rfl rfl (by first | with_reducible assumption | (simp [cat, sgdC, rcpC, hr.1, hr.2, (sgd_ok _).1, (sgd_ok _).2]; done) | (simp [cat, sgdC, rcpC, hr.1, hr.2, (sgd_ok _).1, (sgd_ok _).2]; omega) | rfl)) rfl hS ?_
      refine q_does (d_call Try.func20 nm20 rfl rfl (l12text _ _ (by with_reducible assumption))) rfl ?_
      rintro _ w ⟨k23, c23, rfl, T⟩
      have S := S.merge T rfl
      have hS := S.pk [3] rfl
      refine ⟨hS, ?_⟩
      refine q_does (d_call Try.func25 nm25 rfl rfl (pen_text _ _ _ _ _ _ _ _ _ (S.hr [1, 2] rfl) (S.rdRw 0 rfl rfl) (S.offRow 0 [1, 2] rfl rfl) (by first | omega | (simp only [List.length_append, List.length_cons, List.length_nil, bv_length, sgdC, rcpC, hr.1, hr.2, (sgd_ok _).1, (sgd_ok _).2]; omega) | (simp [cat, sgdC, rcpC, hr.1, hr.2, (sgd_ok _).1, (sgd_ok _).2]; omega)))) rfl ?_
      rintro _ w ⟨rfl, k24, c24, T⟩
      have S := (S.call [1, 2] T rfl).pk [2, 0, 1, 5] rfl
      have hS := S.pk [3] rfl
      refine ⟨hS, ?_⟩
      refine q_does (d_call Try.func25 nm25 rfl rfl (pen_text _ _ _ _ _ _ _ _ _ (S.hr [1, 2] rfl) (S.rdOld R0 rfl) (S.offOld [1, 2] R0 (by decide) Off.nil rfl) (by first | omega | (simp only [List.length_append, List.length_cons, List.length_nil, bv_length, sgdC, rcpC, hr.1, hr.2, (sgd_ok _).1, (sgd_ok _).2]; omega) | (simp [cat, sgdC, rcpC, hr.1, hr.2, (sgd_ok _).1, (sgd_ok _).2]; omega)))) rfl ?_
      rintro _ w ⟨rfl, k27, c27, T⟩
      have S := (S.call [1, 2] T rfl).pk [2, 0, 1, 5] rfl
      have hS := S.pk [3] rfl
      refine ⟨hS, ?_⟩
      refine q_does (d_call Try.func26 nm26 rfl rfl (pen_bytes _ _ _ _ _ (S.exact_ 1 rfl rfl) (S.rdRw 2 rfl rfl) (by first | omega | (simp only [List.length_append, List.length_cons, List.length_nil, bv_length, sgdC, rcpC, hr.1, hr.2, (sgd_ok _).1, (sgd_ok _).2]; omega) | (simp [cat, sgdC, rcpC, hr.1, hr.2, (sgd_ok _).1, (sgd_ok _).2]; omega)))) rfl ?_
      rintro _ w ⟨k28, c28, rfl, T⟩
      have S := S.merge T rfl
      rw [e] at S ⊢
      have hS := S.pk [4] rfl
      refine ⟨hS, ?_⟩
      refine q_nil ?_
      refine p_val (e_assign (v := .slice _ _ _) rfl) rfl ?_
      refine p_nil (x_then (s_seq (s_plain ?_)))
      refine p_val (e_move (v := .slice _ _ _) rfl) rfl ?_
      refine p_does (d_call Try.func27 nm27 rfl rfl (sg_get _ _ _ _ (S.rdRw 0 rfl rfl) (by first | with_reducible assumption | exact sput_lt hbr hbs | exact hbs) (S.capRw 0 rfl rfl) (by first | omega | (simp only [List.length_append, List.length_cons, List.length_nil, bv_length, sgdC, rcpC, hr.1, hr.2, (sgd_ok _).1, (sgd_ok _).2]; omega) | (simp [cat, sgdC, rcpC, hr.1, hr.2, (sgd_ok _).1, (sgd_ok _).2]; omega)))) rfl ?_
      rintro _ w ⟨k31, c31, rfl, T⟩
      have S := S.merge T rfl
      refine p_val (e_move (v := .tuple _) rfl) rfl ?_
      refine p_val (e_extract rfl rfl) rfl ?_
      refine p_val (e_extract rfl rfl) rfl ?_
      refine p_does (d_allocA S zs54) rfl ?_
      rintro _ w ⟨b7, rfl, S⟩
      refine p_does (d_storeW S 0 rfl rfl (by first | exact bv_one _ | exact sv_one _ | exact iv_one _ | with_reducible assumption | (refine One.mem ?_; repeat (first | exact One.bv _ | exact One.sv _ | exact One.iv _ | exact One.nil | exact One.cat0 | refine One.cat1 ?_ ?_ | refine One.cons rfl ?_ | refine One.append ?_ ?_))) sz54 (by first | with_reducible assumption | (simp [cat, sgdC, rcpC, hr.1, hr.2, (sgd_ok _).1, (sgd_ok _).2]; done) | (simp [cat, sgdC, rcpC, hr.1, hr.2, (sgd_ok _).1, (sgd_ok _).2]; omega) | rfl) rfl rfl (by first | with_reducible assumption | (simp [cat, sgdC, rcpC, hr.1, hr.2, (sgd_ok _).1, (sgd_ok _).2]; done) | (simp [cat, sgdC, rcpC, hr.1, hr.2, (sgd_ok _).1, (sgd_ok _).2]; omega) | rfl)) rfl ?_
      intro _ w S
      refine p_val (e_assign (v := .int _ _) rfl) rfl ?_
      refine p_nil (x_then (s_seq (s_seq ?_)))
      refine s_cutK (ks := [some b7, k31, k28, k23, some b5, k27, some b2]) (ps := [Ex _ _, Rw _ _ _ _ _, Rw _ _ _ _ _, Rw _ _ _ _ _, Ex _ _, Rw _ _ _ _ _, Ex _ _]) [(1, .slice _ _ _), (2, .pointer _), (7, .pointer _), (8, .int _ _)] ⟨rfl, rfl, rfl, rfl, trivial⟩ S (fun keep ks ps f' w' => ∃ u, f' = upds u ((39, .bool (decide (¬ sput r s = sput r s))) :: keep) ∧ St w0 w' [] [some b7, k31, k28, k23, some b5, k27, some b2] [(ps.getD 0 fun _ => True), (ps.getD 1 fun _ => True), (ps.getD 2 fun _ => True), (ps.getD 3 fun _ => True), (ps.getD 4 fun _ => True), (ps.getD 5 fun _ => True), (ps.getD 6 fun _ => True)]) ?_ ?_
      · refine s_drawTK (ks := [some b7, k31, k28, k23, some b5, k27, some b2]) (ps := [Ex _ _, Rw _ _ _ _ _, Rw _ _ _ _ _, Rw _ _ _ _ _, Ex _ _, Rw _ _ _ _ _, Ex _ _]) S (.sq [(true, 0), (true, 3), (true, 4), (false, 1)] (.re (.sq [(true, 2), (true, 5)] .stop))) [] [] mixed (by kernel_rfl) (by repeat (first | exact Calm.post _ _ _ | refine Calm.then ?_ _ | refine Calm.inB ?_ _)) (fun hS => ?_)
        have S := S.drew
        refine t_sq ?_
        refine q_val (fun w hS => e_loadW 6 rfl ag54 sz54 hS rfl rfl (by first | with_reducible assumption | (simp [cat, sgdC, rcpC, hr.1, hr.2, (sgd_ok _).1, (sgd_ok _).2]; done) | (simp [cat, sgdC, rcpC, hr.1, hr.2, (sgd_ok _).1, (sgd_ok _).2]; omega) | rfl)) rfl hS ?_
        refine q_val (fun w hS => e_move (v := .slice _ _ _) rfl) rfl hS ?_
        refine q_val (fun w hS => e_bytesStr rfl Try.underlying47 Try.underlying5 Try.underlying9 ((hS.rdRw 2 rfl rfl))) rfl hS ?_
        refine q_does (d_call Try.func28 nm28 rfl rfl (sg_put _ _ _ _ _ (by with_reducible assumption) (S.rdOld R0 rfl) (by first | omega | (simp only [List.length_append, List.length_cons, List.length_nil, bv_length, sgdC, rcpC, hr.1, hr.2, (sgd_ok _).1, (sgd_ok _).2]; omega) | (simp [cat, sgdC, rcpC, hr.1, hr.2, (sgd_ok _).1, (sgd_ok _).2]; omega)))) rfl ?_
        rintro _ w ⟨k35, c35, rfl, T⟩
        have S := S.merge T rfl
        have hS := S.pk [1, 2, 3, 4, 5, 6, 7] rfl
        refine ⟨hS, ?_⟩
        refine q_nil ?_
        refine t_reK (ks := [some b7, k31, k28, k23, some b5, k27, some b2, k35]) (ps := [Ex _ _, Rw _ _ _ _ _, Rw _ _ _ _ _, Rw _ _ _ _ _, Ex _ _, Rw _ _ _ _ _, Ex _ _, Rw _ _ _ _ _]) (S.pk [1, 2, 3, 4, 5, 6, 7, 0] rfl) (fun w' h => h.pk [0, 1, 2, 3, 4, 5, 6] rfl) (fun hS => ?_)
        refine t_sq ?_
        refine q_val (fun w hS => e_bytesStr rfl Try.underlying47 Try.underlying5 Try.underlying9 ((hS.rdRw 7 rfl rfl))) rfl hS ?_
        refine q_val (fun w hS => e_neqT rfl rfl (by first | with_reducible assumption | exact sput_lt hbr hbs | exact hbs) (by first | with_reducible assumption | exact sput_lt hbr hbs | exact hbs)) rfl hS ?_
        refine q_nil ?_
        exact t_stop (p_nil (x_then ⟨_, rfl, _, upds_eq ⟨rfl, rfl, rfl, rfl, rfl, trivial⟩, S.pk [1, 2, 3, 4, 5, 6, 7] rfl⟩))
      · rintro f w ⟨u, rfl, S⟩
        refine x_then ?_
        refine s_cond rfl (fun hc39 => ?_) (fun hc39 => ?_)
        · exact False.elim (hc39 rfl)
        · refine s_skip (x_then (s_seq (s_seq ?_)))
          refine s_cutK (ks := [some b7, k31, k28, k23, some b5, k27, some b2]) (ps := [Ex _ _, Rw _ _ _ _ _, Rw _ _ _ _ _, Rw _ _ _ _ _, Ex _ _, Rw _ _ _ _ _, Ex _ _]) [(1, .slice _ _ _)] ⟨rfl, trivial⟩ S (fun keep ks ps f' w' => ∃ u bb, f' = upds u ((62, .bool bb) :: keep) ∧ (bb = true ↔ False) ∧ St w0 w' [] ks ps) ?_ ?_
          · refine s_plain ?_
            refine p_val (e_field rfl Try.underlying54 rfl sz46 (by decide)) rfl ?_
            refine p_val (e_loadFS (i := 0) (n := 5) (off := 0) rfl ag46 sz46 (by decide) S (j := 6) rfl rfl (by first | with_reducible assumption | (simp [cat, sgdC, rcpC, hr.1, hr.2, (sgd_ok _).1, (sgd_ok _).2]; done) | (simp [cat, sgdC, rcpC, hr.1, hr.2, (sgd_ok _).1, (sgd_ok _).2]; omega) | rfl) (by first | with_reducible assumption | (simp [cat, sgdC, rcpC, hr.1, hr.2, (sgd_ok _).1, (sgd_ok _).2]; done) | (simp [cat, sgdC, rcpC, hr.1, hr.2, (sgd_ok _).1, (sgd_ok _).2]; omega) | rfl)) rfl ?_
            refine p_does (d_call Try.func23 nm23 rfl rfl (l12right _ _ (by with_reducible assumption))) rfl ?_
            rintro _ w ⟨rfl, hB⟩
            have S := S.below hB
            rcases Classical.em (r.right) with hg42 | hg42
            · rw [decide_eq_true hg42]
              refine p_val (e_move (v := .bool _) rfl) rfl ?_
              refine pg_val rfl rfl rfl rfl rfl (e_move (v := .int _ _) rfl) ?_
              refine pg_valB rfl rfl rfl rfl rfl (e_neq rfl rfl) (fun hg45 => ?_) (fun hg45 => ?_)
              · exact False.elim (hg45 (by rw [sgd_back hr hg42 (by omega)]))
              · refine pg_val rfl rfl rfl rfl rfl (e_move (v := .bool _) rfl) ?_
                refine pg_val rfl rfl rfl rfl rfl (e_field rfl Try.underlying54 rfl sz46 (by decide)) ?_
                refine pg_val rfl rfl rfl rfl rfl (e_loadFS (i := 0) (n := 5) (off := 0) rfl ag46 sz46 (by decide) S (j := 0) rfl rfl (by first | with_reducible assumption | (simp [cat, sgdC, rcpC, hr.1, hr.2, (sgd_ok _).1, (sgd_ok _).2]; done) | (simp [cat, sgdC, rcpC, hr.1, hr.2, (sgd_ok _).1, (sgd_ok _).2]; omega) | rfl) (by first | with_reducible assumption | (simp [cat, sgdC, rcpC, hr.1, hr.2, (sgd_ok _).1, (sgd_ok _).2]; done) | (simp [cat, sgdC, rcpC, hr.1, hr.2, (sgd_ok _).1, (sgd_ok _).2]; omega) | rfl)) ?_
                refine pg_val rfl rfl rfl rfl rfl (e_field rfl Try.underlying54 rfl sz46 (by decide)) ?_
                refine pg_val rfl rfl rfl rfl rfl (e_loadFS (i := 0) (n := 5) (off := 0) rfl ag46 sz46 (by decide) S (j := 6) rfl rfl (by first | with_reducible assumption | (simp [cat, sgdC, rcpC, hr.1, hr.2, (sgd_ok _).1, (sgd_ok _).2]; done) | (simp [cat, sgdC, rcpC, hr.1, hr.2, (sgd_ok _).1, (sgd_ok _).2]; omega) | rfl) (by first | with_reducible assumption | (simp [cat, sgdC, rcpC, hr.1, hr.2, (sgd_ok _).1, (sgd_ok _).2]; done) | (simp [cat, sgdC, rcpC, hr.1, hr.2, (sgd_ok _).1, (sgd_ok _).2]; omega) | rfl)) ?_
                refine pg_valB rfl rfl rfl rfl rfl (e_neqV (eqRcp (rSgd (sput r s)).1 r (sgd_ok _) hr) (by decide) gd46 rfl rfl) (fun hg51 => ?_) (fun hg51 => ?_)
                · exact False.elim (hg51 (by rw [sgd_back hr hg42 (by omega)]))
                · refine pg_val rfl rfl rfl rfl rfl (e_pick_f rfl rfl) ?_
                  refine pg_val rfl rfl rfl rfl rfl (e_move (v := .bool _) rfl) ?_
                  refine pg_val rfl rfl rfl rfl rfl (e_field rfl Try.underlying54 rfl sz47 (by decide)) ?_
                  refine pg_val rfl rfl rfl rfl rfl (e_loadF1 (i := 5) (off := 67) rfl ag47 S (j := 0) rfl rfl rfl (by first | with_reducible assumption | (simp [cat, sgdC, rcpC, hr.1, hr.2, (sgd_ok _).1, (sgd_ok _).2]; done) | (simp [cat, sgdC, rcpC, hr.1, hr.2, (sgd_ok _).1, (sgd_ok _).2]; omega) | rfl)) ?_
                  refine pg_val rfl rfl rfl rfl rfl (e_bytesStr rfl Try.underlying47 Try.underlying5 Try.underlying9 ((S.rdRw 1 rfl rfl))) ?_
                  refine pg_val rfl rfl rfl rfl rfl (e_field rfl Try.underlying54 rfl sz47 (by decide)) ?_
                  refine pg_val rfl rfl rfl rfl rfl (e_loadF1 (i := 5) (off := 67) rfl ag47 S (j := 6) rfl rfl rfl (by first | with_reducible assumption | (simp [cat, sgdC, rcpC, hr.1, hr.2, (sgd_ok _).1, (sgd_ok _).2]; done) | (simp [cat, sgdC, rcpC, hr.1, hr.2, (sgd_ok _).1, (sgd_ok _).2]; omega) | rfl)) ?_
                  refine pg_val rfl rfl rfl rfl rfl (e_bytesStr rfl Try.underlying47 Try.underlying5 Try.underlying9 ((S.rdOld R0 rfl))) ?_
                  refine pg_val rfl rfl rfl rfl rfl (e_neqT rfl rfl (by rw [sgd_back hr hg42 (by omega)]; exact hbs) (by first | with_reducible assumption | exact sput_lt hbr hbs | exact hbs)) ?_
                  refine pg_val rfl rfl rfl rfl rfl (e_pick_f rfl rfl) ?_
                  refine p_val (e_pick_t rfl rfl) rfl ?_
                  exact p_nil (x_then ⟨_, rfl, _, _, upds_eq ⟨rfl, rfl, trivial⟩, by first | (simp; done) | simp [sgd_back hr hg42 (show s.length ≤ 65536 by omega)], S⟩)
            · rw [decide_eq_false hg42]
              refine p_val (e_move (v := .bool _) rfl) rfl ?_
              refine p_no rfl rfl rfl rfl rfl ?_
              refine p_no rfl rfl rfl rfl rfl ?_
              refine p_no rfl rfl rfl rfl rfl ?_
              refine p_noU rfl rfl rfl rfl ?_
              refine p_noU rfl rfl rfl rfl ?_
              refine p_noU rfl rfl rfl rfl ?_
              refine p_noU rfl rfl rfl rfl ?_
              refine p_noU rfl rfl rfl rfl ?_
              refine p_no rfl rfl rfl rfl rfl ?_
              refine p_no rfl rfl rfl rfl rfl ?_
              refine p_noU rfl rfl rfl rfl ?_
              refine p_noU rfl rfl rfl rfl ?_
              refine p_noU rfl rfl rfl rfl ?_
              refine p_noU rfl rfl rfl rfl ?_
              refine p_noU rfl rfl rfl rfl ?_
              refine p_noU rfl rfl rfl rfl ?_
              refine p_noU rfl rfl rfl rfl ?_
              refine p_no rfl rfl rfl rfl rfl ?_
              refine p_val (e_pick_f rfl rfl) rfl ?_
              exact p_nil (x_then ⟨_, rfl, _, _, upds_eq ⟨rfl, rfl, trivial⟩, by first | (simp; done) | simp [sgd_back hr hg42 (show s.length ≤ 65536 by omega)], S⟩)
          · rintro f w ⟨u, b62, rfl, hb62, S⟩
            refine x_then ?_
            refine s_condb rfl (fun hc62 => ?_) (fun hc62 => ?_)
            · exact False.elim (hb62.1 hc62)
            · have hp62 : ¬ False := fun h => by rw [hb62.2 h] at hc62; cases hc62
              refine s_skip (x_then (s_seq (s_plain ?_)))
              refine p_val (e_move (v := .slice _ _ _) rfl) rfl ?_
              refine p_does (d_call Try.func27 nm27 rfl rfl (sg_get _ _ _ _ (S.rdOld R rfl) bR (by omega) (by first | omega | (simp only [List.length_append, List.length_cons, List.length_nil, bv_length, sgdC, rcpC, hr.1, hr.2, (sgd_ok _).1, (sgd_ok _).2]; omega) | (simp [cat, sgdC, rcpC, hr.1, hr.2, (sgd_ok _).1, (sgd_ok _).2]; omega)))) rfl ?_
              rintro _ w ⟨k65, c65, rfl, T⟩
              have S := S.merge T rfl
              refine p_val (e_move (v := .tuple _) rfl) rfl ?_
              refine p_val (e_extract rfl rfl) rfl ?_
              refine p_val (e_extract rfl rfl) rfl ?_
              refine p_does (d_allocA S zs54) rfl ?_
              rintro _ w ⟨b9, rfl, S⟩
              refine p_does (d_storeW S 0 rfl rfl (by first | exact bv_one _ | exact sv_one _ | exact iv_one _ | with_reducible assumption | (refine One.mem ?_; repeat (first | exact One.bv _ | exact One.sv _ | exact One.iv _ | exact One.nil | exact One.cat0 | refine One.cat1 ?_ ?_ | refine One.cons rfl ?_ | refine One.append ?_ ?_))) sz54 (by first | with_reducible assumption | (simp [cat, sgdC, rcpC, hr.1, hr.2, (sgd_ok _).1, (sgd_ok _).2]; done) | (simp [cat, sgdC, rcpC, hr.1, hr.2, (sgd_ok _).1, (sgd_ok _).2]; omega) | rfl) rfl rfl (by first | with_reducible assumption | (simp [cat, sgdC, rcpC, hr.1, hr.2, (sgd_ok _).1, (sgd_ok _).2]; done) | (simp [cat, sgdC, rcpC, hr.1, hr.2, (sgd_ok _).1, (sgd_ok _).2]; omega) | rfl)) rfl ?_
              intro _ w S
              refine p_val (e_assign (v := .int _ _) rfl) rfl ?_
              refine p_nil (x_then (s_seq (s_seq (s_plain ?_))))
              refine p_val (e_move (v := .int _ _) rfl) rfl ?_
              refine p_val (e_neq rfl rfl) rfl ?_
              refine p_nil (x_then ?_)
              refine s_cond rfl (fun hc69 => ?_) (fun hc69 => ?_)
              · refine s_seq ?_
                refine s_cutK (ks := [some b9, k65, some b7, k31, k28, k23, some b5, k27, some b2]) (ps := [Ex _ _, Rw _ _ _ _ _, Ex _ _, Rw _ _ _ _ _, Rw _ _ _ _ _, Rw _ _ _ _ _, Ex _ _, Rw _ _ _ _ _, Ex _ _]) [] trivial S (fun keep ks ps f' w' => ∃ u bb, f' = upds u ((4, .bool bb) :: keep) ∧ (bb = true ↔ True) ∧ St w0 w' [] ks ps) ?_ ?_
                · refine s_plain ?_
                  refine p_val (e_field rfl Try.underlying54 rfl sz46 (by decide)) rfl ?_
                  refine p_val (e_loadFS (i := 0) (n := 5) (off := 0) rfl ag46 sz46 (by decide) S (j := 0) rfl rfl (by first | with_reducible assumption | (simp [cat, sgdC, rcpC, hr.1, hr.2, (sgd_ok _).1, (sgd_ok _).2]; done) | (simp [cat, sgdC, rcpC, hr.1, hr.2, (sgd_ok _).1, (sgd_ok _).2]; omega) | rfl) (by first | with_reducible assumption | (simp [cat, sgdC, rcpC, hr.1, hr.2, (sgd_ok _).1, (sgd_ok _).2]; done) | (simp [cat, sgdC, rcpC, hr.1, hr.2, (sgd_ok _).1, (sgd_ok _).2]; omega) | rfl)) rfl ?_
                  refine p_val (e_buildS0 bt46) rfl ?_
                  refine p_valB (e_eqlV (eqRcp (rSgd l).1 Rcp.zero (sgd_ok _) zero_ok) (by decide) gd46 rfl rfl) rfl (fun hg73 => ?_) (fun hg73 => ?_)
                  · refine p_val (e_move (v := .bool _) rfl) rfl ?_
                    refine pg_val rfl rfl rfl rfl rfl (e_field rfl Try.underlying54 rfl sz47 (by decide)) ?_
                    refine pg_val rfl rfl rfl rfl rfl (e_loadF1 (i := 5) (off := 67) rfl ag47 S (j := 0) rfl rfl rfl (by first | with_reducible assumption | (simp [cat, sgdC, rcpC, hr.1, hr.2, (sgd_ok _).1, (sgd_ok _).2]; done) | (simp [cat, sgdC, rcpC, hr.1, hr.2, (sgd_ok _).1, (sgd_ok _).2]; omega) | rfl)) ?_
                    refine pg_val rfl rfl rfl rfl rfl (e_len rfl Try.underlying47) ?_
                    refine pg_valB rfl rfl rfl rfl rfl (e_eql rfl rfl) (fun hg78 => ?_) (fun hg78 => ?_)
                    · refine p_val (e_pick_t rfl rfl) rfl ?_
                      refine p_val (e_move (v := .bool _) rfl) rfl ?_
                      refine pg_does rfl rfl rfl rfl rfl (d_call Try.func24 nm24 rfl rfl (l12awake _)) ?_
                      rintro _ w ⟨rfl, hB⟩
                      have S := S.below hB
                      refine p_val (e_pick_t rfl rfl) rfl ?_
                      refine p_val (e_assign (v := .bool _) rfl) rfl ?_
                      exact p_nil (x_then ⟨_, rfl, _, _, upds_eq ⟨rfl, trivial⟩, by first | (simp only [decide_eq_true_eq, eq_self, true_iff, iff_true, iff_false, Bool.false_eq_true, false_iff, ge_iff_le, gt_iff_lt, true_and, and_true, false_and, and_false, true_or, or_true, false_or, or_false, not_true_eq_false, not_false_eq_true]; omega) | simp | omega | simp_all, S⟩)
                    · exact False.elim (hg78 (by rw [(sgd_no hc69).2]; rfl))
                  · exact False.elim (hg73 (sgd_no hc69).1)
                · rintro f w ⟨u, b4, rfl, hb4, S⟩
                  refine x_then (s_ret (x_then_ret ?_))
                  exact post1 (v := .bool _) Try.results6 rfl (⟨by rw [hb4.2 trivial], S.to_below⟩)
              · have hq := sgd_inv bR (Classical.not_not.1 hc69)
                have hql : (rSgd l).2.1.length ≤ l.length := by have h9 := congrArg List.length hq.2.1; unfold sput at h9; simp only [List.length_append] at h9; omega
                refine s_skip (x_then (s_seq ?_))
                refine s_cutK (ks := [some b9, k65, some b7, k31, k28, k23, some b5, k27, some b2]) (ps := [Ex _ _, Rw _ _ _ _ _, Ex _ _, Rw _ _ _ _ _, Rw _ _ _ _ _, Rw _ _ _ _ _, Ex _ _, Rw _ _ _ _ _, Ex _ _]) [] trivial S (fun keep ks ps f' w' => ∃ u bb, f' = upds u ((4, .bool bb) :: keep) ∧ (bb = true ↔ True) ∧ St w0 w' [] ks ps) ?_ ?_
                · refine s_drawTK (ks := [some b9, k65, some b7, k31, k28, k23, some b5, k27, some b2]) (ps := [Ex _ _, Rw _ _ _ _ _, Ex _ _, Rw _ _ _ _ _, Rw _ _ _ _ _, Rw _ _ _ _ _, Ex _ _, Rw _ _ _ _ _, Ex _ _]) S (.sq [(true, 0), (true, 1), (false, 2), (true, 3), (true, 4), (true, 7), (true, 8), (false, 5)] (.re (.sq [(true, 6), (true, 9), (true, 10), (true, 11), (false, 12), (true, 13)] .stop))) [14] [14] mixed (by kernel_rfl) (by repeat (first | exact Calm.post _ _ _ | refine Calm.then ?_ _ | refine Calm.inB ?_ _)) (fun hS => ?_)
                  have S := S.drew
                  refine t_sq ?_
                  refine q_val (fun w hS => e_field rfl Try.underlying54 rfl sz46 (by decide)) rfl hS ?_
                  refine q_val (fun w hS => e_loadFS (i := 0) (n := 5) (off := 0) rfl ag46 sz46 (by decide) hS (j := 0) rfl rfl (by first | with_reducible assumption | (simp [cat, sgdC, rcpC, hr.1, hr.2, (sgd_ok _).1, (sgd_ok _).2]; done) | (simp [cat, sgdC, rcpC, hr.1, hr.2, (sgd_ok _).1, (sgd_ok _).2]; omega) | rfl) (by first | with_reducible assumption | (simp [cat, sgdC, rcpC, hr.1, hr.2, (sgd_ok _).1, (sgd_ok _).2]; done) | (simp [cat, sgdC, rcpC, hr.1, hr.2, (sgd_ok _).1, (sgd_ok _).2]; omega) | rfl)) rfl hS ?_
                  refine q_does (d_call Try.func23 nm23 rfl rfl (l12right _ _ (sgd_ok l))) rfl ?_
                  rintro _ w ⟨rfl, hB⟩
                  have S := S.below hB
                  have hS := S.pk [0, 1, 2, 3, 4, 5, 6, 7, 8] rfl
                  refine ⟨hS, ?_⟩
                  rcases Classical.em ((rSgd l).1.right) with hg85 | hg85
                  · rw [decide_eq_true hg85]
                    refine q_val (fun w hS => e_move (v := .bool _) rfl) rfl hS ?_
                    refine qg_val rfl rfl rfl rfl rfl (fun w hS => e_loadW 0 rfl ag54 sz54 hS rfl rfl (by first | with_reducible assumption | (simp [cat, sgdC, rcpC, hr.1, hr.2, (sgd_ok _).1, (sgd_ok _).2]; done) | (simp [cat, sgdC, rcpC, hr.1, hr.2, (sgd_ok _).1, (sgd_ok _).2]; omega) | rfl)) hS ?_
                    refine qg_val rfl rfl rfl rfl rfl (fun w hS => e_move (v := .slice _ _ _) rfl) hS ?_
                    refine qg_val rfl rfl rfl rfl rfl (fun w hS => e_bytesStr rfl Try.underlying47 Try.underlying5 Try.underlying9 ((hS.rdOld R rfl))) hS ?_
                    refine qg_does rfl rfl rfl rfl rfl (d_call Try.func28 nm28 rfl rfl (sg_put _ _ _ _ _ (sgd_ok l) (S.rdRw 1 rfl rfl) (by first | omega | (simp only [List.length_append, List.length_cons, List.length_nil, bv_length, sgdC, rcpC, hr.1, hr.2, (sgd_ok _).1, (sgd_ok _).2]; omega) | (simp [cat, sgdC, rcpC, hr.1, hr.2, (sgd_ok _).1, (sgd_ok _).2]; omega)))) ?_
                    rintro _ w ⟨k88, c88, rfl, T⟩
                    have S := S.merge T rfl
                    have hS := S.pk [1, 2, 3, 4, 5, 6, 7, 8, 9] rfl
                    refine ⟨hS, ?_⟩
                    refine q_nil ?_
                    refine t_reK (ks := [some b9, k65, some b7, k31, k28, k23, some b5, k27, some b2, k88]) (ps := [Ex _ _, Rw _ _ _ _ _, Ex _ _, Rw _ _ _ _ _, Rw _ _ _ _ _, Rw _ _ _ _ _, Ex _ _, Rw _ _ _ _ _, Ex _ _, Rw _ _ _ _ _]) (S.pk [1, 2, 3, 4, 5, 6, 7, 8, 9, 0] rfl) (fun w' h => h.pk [0, 1, 2, 3, 4, 5, 6, 7, 8] rfl) (fun hS => ?_)
                    refine t_sq ?_
                    refine qg_val rfl rfl rfl rfl rfl (fun w hS => e_bytesStr rfl Try.underlying47 Try.underlying5 Try.underlying9 ((hS.rdRw 9 rfl rfl))) hS ?_
                    refine qg_valB rfl rfl rfl rfl rfl (fun w hS => e_eqlT rfl rfl (by rw [hq.2.1]; exact bR) (bR)) hS (fun hg92 => ?_) (fun hg92 => ?_)
                    · refine q_val (fun w hS => e_pick_t rfl rfl) rfl hS ?_
                      refine q_val (fun w hS => e_move (v := .bool _) rfl) rfl hS ?_
                      refine qg_does rfl rfl rfl rfl rfl (d_call Try.func24 nm24 rfl rfl (l12awake _)) ?_
                      rintro _ w ⟨rfl, hB⟩
                      have S := S.below hB
                      have hS := S.pk [1, 2, 3, 4, 5, 6, 7, 8, 9, 0] rfl
                      refine ⟨hS, ?_⟩
                      refine q_val (fun w hS => e_pick_t rfl rfl) rfl hS ?_
                      refine q_nil ?_
                      refine t_stop ?_
                      refine p_val (e_assign (v := .bool _) rfl) rfl ?_
                      exact p_nil (x_then ⟨_, rfl, _, _, upds_eq ⟨rfl, trivial⟩, by first | (simp only [decide_eq_true_eq, eq_self, true_iff, iff_true, iff_false, Bool.false_eq_true, false_iff, ge_iff_le, gt_iff_lt, true_and, and_true, false_and, and_false, true_or, or_true, false_or, or_false, not_true_eq_false, not_false_eq_true]; omega) | simp | omega | simp_all, S.pk [1, 2, 3, 4, 5, 6, 7, 8, 9] rfl⟩)
                    · exact False.elim (hg92 hq.2.1)
                  · exact False.elim (hg85 hq.1)
                · rintro f w ⟨u, b4, rfl, hb4, S⟩
                  refine x_then (s_ret ?_)
                  exact post1 (v := .bool _) Try.results6 rfl (⟨by rw [hb4.2 trivial], S.to_below⟩)
end Go.Proofs.Ytcgcjklpilbndaa
