/- Own texts, one behind the other: walks and laws that the statement needs. They prove no statement by themselves. -/
import Derived.Test.YtdhfiamgmokfbaaZP19c3
import Derived.Test.YtdhfiamgmokfbaaZP19c2
/- What is checked by a path, walked. It proves no statement by itself. -/
set_option linter.unusedSimpArgs false
set_option linter.unusedVariables false
set_option maxRecDepth 100000
set_option maxHeartbeats 1000000
namespace Go.Proofs.Ytdhfiamgmokfbaa
open Go Go.RowKit E
attribute [local irreducible] wpList seqH treeH
def climbC (now : List Nat) (b n : Nat) (P : List (List Nat)) : Option (List Nat) :=
  if h : n ≤ 1 then (match P with | [] => some now | _ :: _ => none)
  else if sidx b < n then (match P with | [] => none | p :: P' => climbC (if b % 2 = 0 then mpair now p else mpair p now) (b / 2) ((n + 1) / 2) P')
  else climbC now (b / 2) ((n + 1) / 2) P
termination_by n
theorem climbC_end {now : List Nat} {b n : Nat} {P : List (List Nat)} (h : n ≤ 1) : climbC now b n P = (match P with | [] => some now | _ :: _ => none) := by rw [climbC.eq_def, dif_pos h]
theorem climbC_nil {now : List Nat} {b n : Nat} (h : ¬ n ≤ 1) (hs : sidx b < n) : climbC now b n [] = none := by rw [climbC.eq_def, dif_neg h, if_pos hs]
theorem climbC_cons {now p : List Nat} {b n : Nat} {P : List (List Nat)} (h : ¬ n ≤ 1) (hs : sidx b < n) : climbC now b n (p :: P) = climbC (if b % 2 = 0 then mpair now p else mpair p now) (b / 2) ((n + 1) / 2) P := by rw [climbC.eq_def, dif_neg h, if_pos hs]
theorem climbC_no {now : List Nat} {b n : Nat} {P : List (List Nat)} (h : ¬ n ≤ 1) (hs : ¬ sidx b < n) : climbC now b n P = climbC now (b / 2) ((n + 1) / 2) P := by rw [climbC.eq_def, dif_neg h, if_neg hs]
def mcheck (r s : List Nat) (a m : Int) (P : List (List Nat)) : Prop := 0 ≤ a ∧ a < m ∧ m ≤ 4096 ∧ climbC (mleaf s) a.toNat m.toNat P = some r
instance (r s : List Nat) (a m : Int) (P : List (List Nat)) : Decidable (mcheck r s a m P) := by unfold mcheck; infer_instance
theorem mk_check (w0 : World) (r s : List Nat) (a m : Int) (A : Option Addr) (c : Nat) (P : List (List Nat)) (hr : r.length = 32) (hs : s.length = 32) (R : Rd w0 32 A P.length (sv P)) (hP0 : All32 P) (cR : P.length ≤ c) :
    Ret Try.prog 38 [.agg (bv r).toArray, .agg (bv s).toArray, .int .i64 a, .int .i64 m, .slice A P.length c] w0 fun v w' => v = .bool (decide (mcheck r s a m P)) ∧ Below w0.heap.size w0 w' := by
  refine enter Try.func38 rfl Try.ntmps38 (Nat.le_of_ble_eq_true rfl) ?_
  have S := St.init w0
  refine s_seq (s_plain ?_)
  refine p_does (d_boxA S rfl) rfl ?_
  rintro _ w ⟨b5, rfl, S⟩
  refine p_does (d_boxA S rfl) rfl ?_
  rintro _ w ⟨b6, rfl, S⟩
  refine p_val (e_assign (v := .bool _) rfl) rfl ?_
  refine p_nil (x_then (s_seq (s_seq ?_)))
  refine s_cutK (ks := [some b6, some b5]) (ps := [Ex _ _, Ex _ _]) [(2, .int _ _), (3, .int _ _), (4, .slice _ _ _), (5, .pointer _), (6, .pointer _)] ⟨rfl, rfl, rfl, rfl, rfl, trivial⟩ S (fun keep ks ps f' w' => ∃ u bb, f' = upds u ((22, .bool bb) :: keep) ∧ (bb = true ↔ (((a < (0 : Int)) ∨ (m ≤ a)) ∨ ((4096 : Int) < m))) ∧ St w0 w' [] ks ps) ?_ ?_
  · refine s_plain ?_
    refine p_val (e_move (v := .int _ _) rfl) rfl ?_
    refine p_valB (e_lss rfl rfl) rfl (fun hg13 => ?_) (fun hg13 => ?_)
    · refine p_val (e_move (v := .bool _) rfl) rfl ?_
      refine p_no rfl rfl rfl rfl rfl ?_
      refine p_no rfl rfl rfl rfl rfl ?_
      refine p_no rfl rfl rfl rfl rfl ?_
      refine p_val (e_pick_t rfl rfl) rfl ?_
      refine p_val (e_move (v := .bool _) rfl) rfl ?_
      refine p_no rfl rfl rfl rfl rfl ?_
      refine p_no rfl rfl rfl rfl rfl ?_
      refine p_val (e_pick_t rfl rfl) rfl ?_
      exact p_nil (x_then ⟨_, rfl, _, _, upds_eq ⟨rfl, rfl, rfl, rfl, rfl, rfl, trivial⟩, by first | (simp only [decide_eq_true_eq, eq_self, true_iff, iff_true, iff_false, Bool.false_eq_true, false_iff, ge_iff_le, gt_iff_lt, true_and, and_true, false_and, and_false, true_or, or_true, false_or, or_false, not_true_eq_false, not_false_eq_true]; omega) | simp | omega | simp_all, S⟩)
    · refine p_val (e_move (v := .bool _) rfl) rfl ?_
      refine pg_val rfl rfl rfl rfl rfl (e_move (v := .int _ _) rfl) ?_
      refine pg_val rfl rfl rfl rfl rfl (e_move (v := .int _ _) rfl) ?_
      refine pg_valB rfl rfl rfl rfl rfl (e_geq rfl rfl) (fun hg17 => ?_) (fun hg17 => ?_)
      · refine p_val (e_pick_f rfl rfl) rfl ?_
        refine p_val (e_move (v := .bool _) rfl) rfl ?_
        refine p_no rfl rfl rfl rfl rfl ?_
        refine p_no rfl rfl rfl rfl rfl ?_
        refine p_val (e_pick_t rfl rfl) rfl ?_
        exact p_nil (x_then ⟨_, rfl, _, _, upds_eq ⟨rfl, rfl, rfl, rfl, rfl, rfl, trivial⟩, by first | (simp only [decide_eq_true_eq, eq_self, true_iff, iff_true, iff_false, Bool.false_eq_true, false_iff, ge_iff_le, gt_iff_lt, true_and, and_true, false_and, and_false, true_or, or_true, false_or, or_false, not_true_eq_false, not_false_eq_true]; omega) | simp | omega | simp_all, S⟩)
      · refine p_val (e_pick_f rfl rfl) rfl ?_
        refine p_val (e_move (v := .bool _) rfl) rfl ?_
        refine pg_val rfl rfl rfl rfl rfl (e_move (v := .int _ _) rfl) ?_
        refine pg_val rfl rfl rfl rfl rfl (e_gtr rfl rfl) ?_
        refine p_val (e_pick_f rfl rfl) rfl ?_
        exact p_nil (x_then ⟨_, rfl, _, _, upds_eq ⟨rfl, rfl, rfl, rfl, rfl, rfl, trivial⟩, by first | (simp only [decide_eq_true_eq, eq_self, true_iff, iff_true, iff_false, Bool.false_eq_true, false_iff, ge_iff_le, gt_iff_lt, true_and, and_true, false_and, and_false, true_or, or_true, false_or, or_false, not_true_eq_false, not_false_eq_true]; omega) | simp | omega | simp_all, S⟩)
  · rintro f w ⟨u, b22, rfl, hb22, S⟩
    refine x_then ?_
    refine s_condb rfl (fun hc22 => ?_) (fun hc22 => ?_)
    · have hp22 : (((a < (0 : Int)) ∨ (m ≤ a)) ∨ ((4096 : Int) < m)) := hb22.1 hc22
      refine s_seq (s_plain ?_)
      refine p_val (e_assign (v := .bool _) rfl) rfl ?_
      refine p_nil (x_then (s_ret (x_then_ret ?_)))
      exact post1 (v := .bool _) Try.results38 rfl (⟨by rw [decide_eq_false (fun h => by have h1 := h.1; have h2 := h.2.1; have h3 := h.2.2.1; omega)], S.to_below⟩)
    · have hp22 : ¬ (((a < (0 : Int)) ∨ (m ≤ a)) ∨ ((4096 : Int) < m)) := fun h => by rw [hb22.2 h] at hc22; cases hc22
      refine s_skip (x_then (s_seq (s_plain ?_)))
      refine p_val (e_loadW 0 rfl ag29 sz29 S rfl rfl (by first | with_reducible assumption | (rw [bv_length]; with_reducible assumption) | (rw [List.size_toArray, bv_length]; with_reducible assumption) | (simp [cat, length_join, length_mleaf, length_mpair, hr, hs]; done) | (simp [cat, length_join, length_mleaf, length_mpair, hr, hs]; omega) | rfl)) rfl ?_
      refine p_does (d_call Try.func44 nm44 rfl rfl (mk_leaf _ _ (by first | with_reducible assumption | (rw [bv_length]; with_reducible assumption) | (rw [List.size_toArray, bv_length]; with_reducible assumption) | (simp [cat, length_join, length_mleaf, length_mpair, hr, hs]; done) | (simp [cat, length_join, length_mleaf, length_mpair, hr, hs]; omega) | rfl))) rfl ?_
      rintro _ w ⟨rfl, hB⟩
      have S := S.below hB
      refine p_does (d_allocA S zvS) rfl ?_
      rintro _ w ⟨b11, rfl, S⟩
      refine p_does (d_storeW S 0 rfl rfl (by first | exact bv_one _ | exact sv_one _ | exact iv_one _ | with_reducible assumption | (refine One.mem ?_; repeat (first | exact One.bv _ | exact One.sv _ | exact One.iv _ | exact One.nil | exact One.cat0 | refine One.cat1 ?_ ?_ | refine One.cons rfl ?_ | refine One.append ?_ ?_))) sz29 (by first | with_reducible assumption | (rw [bv_length]; with_reducible assumption) | (rw [List.size_toArray, bv_length]; with_reducible assumption) | (simp [cat, length_join, length_mleaf, length_mpair, hr, hs]; done) | (simp [cat, length_join, length_mleaf, length_mpair, hr, hs]; omega) | rfl) rfl rfl (by first | with_reducible assumption | (rw [bv_length]; with_reducible assumption) | (rw [List.size_toArray, bv_length]; with_reducible assumption) | (simp [cat, length_join, length_mleaf, length_mpair, hr, hs]; done) | (simp [cat, length_join, length_mleaf, length_mpair, hr, hs]; omega) | rfl)) rfl ?_
      intro _ w S
      refine p_nil (x_then (s_seq (s_block ?_)))
      obtain ⟨a0, rfl⟩ : ∃ b0 : Nat, a = (b0 : Int) := ⟨a.toNat, by omega⟩
      obtain ⟨m0, rfl⟩ : ∃ b0 : Nat, m = (b0 : Int) := ⟨m.toNat, by omega⟩
      refine s_loopK (α := Nat) (ks := [some b11, some b6, some b5]) (ps := [Ex _ _, Ex _ _, Ex _ _]) [(5, .pointer _), (11, .pointer _)] ⟨rfl, rfl, trivial⟩ S (fun keep ks ps n f' w' => ∃ u b A1 c1 P1 now, f' = upds u ((2, .int .i64 ((b : Nat) : Int)) :: (3, .int .i64 (n : Int)) :: (4, .slice A1 (List.length P1) c1) :: keep) ∧ (now.length = 32) ∧ (b < n) ∧ (n ≤ 4096) ∧ (Rd w0 32 A1 P1.length (sv P1)) ∧ (All32 P1) ∧ (P1.length ≤ c1) ∧ (climbC now b n P1 = climbC (mleaf s) a0 m0 P) ∧ St w0 w' [] [some b11, some b6, some b5] [Ex (bv now).toArray 29, (ps.getD 1 fun _ => True), (ps.getD 2 fun _ => True)]) (fun n => n) (m0) (⟨_, _, _, _, _, _, upds_eq ⟨rfl, rfl, rfl, rfl, rfl, trivial⟩, length_mleaf s, by first | omega | rfl | with_reducible assumption | (simp; done) | (simp; omega), by first | omega | rfl | with_reducible assumption | (simp; done) | (simp; omega), R, hP0, by first | omega | rfl | with_reducible assumption | (simp; done) | (simp; omega), by first | omega | rfl | with_reducible assumption | (simp; done) | (simp; omega), S⟩) ?_
      rintro n f w ⟨u, b, A1, c1, P1, now, rfl, hnl, hb, hn, R1, hP, cR1, hc, S⟩
      refine s_seq (s_seq (s_plain ?_))
      refine p_val (e_move (v := .int _ _) rfl) rfl ?_
      refine p_val (e_gtr rfl rfl) rfl ?_
      refine p_nil (x_then ?_)
      refine s_cond rfl (fun hc26 => ?_) (fun hc26 => ?_)
      · refine s_skip (x_then (s_block (s_seq ?_)))
        refine s_cutK (ks := [some b11, some b6, some b5]) (ps := [Ex _ _, Ex _ _, Ex _ _]) [(2, .int _ _), (3, .int _ _), (5, .pointer _), (11, .pointer _)] ⟨rfl, rfl, rfl, rfl, trivial⟩ S (fun keep ks ps f' w' => ∃ u A2 c2 P2 now2, f' = upds u ((4, .slice A2 (List.length P2) c2) :: keep) ∧ (now2.length = 32) ∧ (Rd w0 32 A2 P2.length (sv P2)) ∧ (All32 P2) ∧ (P2.length ≤ c2) ∧ (climbC now2 (b / 2) ((n + 1) / 2) P2 = climbC now b n P1) ∧ St w0 w' [] [some b11, some b6, some b5] [Ex (bv now2).toArray 29, (ps.getD 1 fun _ => True), (ps.getD 2 fun _ => True)]) ?_ ?_
        · refine s_seq (s_plain ?_)
          refine p_val (e_move (v := .int _ _) rfl) rfl ?_
          refine p_val (e_xor1 rfl rfl (by omega)) rfl ?_
          rw [xor1_sidx]
          refine p_val (e_move (v := .int _ _) rfl) rfl ?_
          refine p_val (e_lss rfl rfl) rfl ?_
          refine p_nil (x_then ?_)
          refine s_cond rfl (fun hc30 => ?_) (fun hc30 => ?_)
          · refine s_seq (s_seq (s_plain ?_))
            refine p_val (e_move (v := .slice _ _ _) rfl) rfl ?_
            refine p_val (e_len rfl Try.underlying24) rfl ?_
            refine p_val (e_eql rfl rfl) rfl ?_
            refine p_nil (x_then ?_)
            refine s_cond rfl (fun hc33 => ?_) (fun hc33 => ?_)
            · have e0 : P1 = [] := List.eq_nil_of_length_eq_zero (by omega)
              refine s_seq (s_plain ?_)
              refine p_val (e_assign (v := .bool _) rfl) rfl ?_
              refine p_nil (x_then (s_ret (x_then_ret (x_then_ret (x_then_ret (x_in_ret (x_then_ret (x_in_ret (x_then_ret ?_)))))))))
              exact post1 (v := .bool _) Try.results38 rfl (⟨by rw [decide_eq_false (fun h => by have h4 := h.2.2.2; rw [Int.toNat_natCast, Int.toNat_natCast, ← hc, e0, climbC_nil (by omega) (by omega)] at h4; cases h4)], S.to_below⟩)
            · obtain ⟨p, P3, rfl⟩ : ∃ p P3, P1 = p :: P3 := by cases P1 with | nil => exact absurd rfl hc33 | cons p P3 => exact ⟨p, P3, rfl⟩
              have hp32 : p.length = 32 := hP p (by simp)
              refine s_skip (x_then (s_seq ?_))
              refine s_cutK (ks := [some b11, some b6, some b5]) (ps := [Ex _ _, Ex _ _, Ex _ _]) [(2, .int _ _), (3, .int _ _), (4, .slice _ _ _), (5, .pointer _), (11, .pointer _)] ⟨rfl, rfl, rfl, rfl, rfl, trivial⟩ S (fun keep ks ps f' w' => ∃ u now3, f' = upds u (keep) ∧ (now3.length = 32) ∧ (now3 = if b % 2 = 0 then mpair now p else mpair p now) ∧ St w0 w' [] [some b11, some b6, some b5] [Ex (bv now3).toArray 29, (ps.getD 1 fun _ => True), (ps.getD 2 fun _ => True)]) ?_ ?_
              · refine s_seq (s_plain ?_)
                refine p_val (e_move (v := .int _ _) rfl) rfl ?_
                refine p_val (e_rem64 rfl rfl (by omega)) rfl ?_
                refine p_val (e_eql rfl rfl) rfl ?_
                refine p_nil (x_then ?_)
                refine s_cond rfl (fun hc36 => ?_) (fun hc36 => ?_)
                · refine s_drawK (ks := [some b11, some b6, some b5]) (ps := [Ex _ _, Ex _ _, Ex _ _]) S [(true, 0), (true, 1), (true, 2), (true, 3), (false, 4)] [5] [5] mixed (by kernel_rfl) (by repeat (first | exact Calm.post _ _ _ | refine Calm.then ?_ _ | refine Calm.inB ?_ _)) (fun hS => ?_)
                  have S := S.drew
                  refine q_val (fun w hS => e_loadW 0 rfl ag29 sz29 hS rfl rfl (by first | with_reducible assumption | (rw [bv_length]; with_reducible assumption) | (rw [List.size_toArray, bv_length]; with_reducible assumption) | (simp [cat, length_join, length_mleaf, length_mpair, hr, hs]; done) | (simp [cat, length_join, length_mleaf, length_mpair, hr, hs]; omega) | rfl)) rfl hS ?_
                  refine q_val (fun w hS => e_move (v := .slice _ _ _) rfl) rfl hS ?_
                  refine q_val (fun w hS => e_ixR (hS.rdOld R1 rfl) (by decide) rfl rfl Try.underlying24 sz29 (⟨by omega, by simp⟩)) rfl hS ?_
                  refine q_val (fun w hS => e_loadRA rfl ag29 sz29 (by decide) (Rd.sumA (hS.rdOld R1 rfl) (by with_reducible assumption) (⟨by omega, by simp⟩))) rfl hS ?_
                  refine q_does (d_call Try.func85 nm85 rfl rfl (pair_calls _ 2 now p (by first | with_reducible assumption | (rw [bv_length]; with_reducible assumption) | (rw [List.size_toArray, bv_length]; with_reducible assumption) | (simp [cat, length_join, length_mleaf, length_mpair, hr, hs]; done) | (simp [cat, length_join, length_mleaf, length_mpair, hr, hs]; omega) | rfl) hp32)) rfl ?_
                  rintro _ w ⟨rfl, hB⟩
                  have S := S.below hB
                  have hS := S.pk [0, 1, 2] rfl
                  refine ⟨hS, ?_⟩
                  refine q_nil ?_
                  refine p_does (d_storeW S 0 rfl rfl (by first | exact bv_one _ | exact sv_one _ | exact iv_one _ | with_reducible assumption | (refine One.mem ?_; repeat (first | exact One.bv _ | exact One.sv _ | exact One.iv _ | exact One.nil | exact One.cat0 | refine One.cat1 ?_ ?_ | refine One.cons rfl ?_ | refine One.append ?_ ?_))) sz29 (by first | with_reducible assumption | (rw [bv_length]; with_reducible assumption) | (rw [List.size_toArray, bv_length]; with_reducible assumption) | (simp [cat, length_join, length_mleaf, length_mpair, hr, hs]; done) | (simp [cat, length_join, length_mleaf, length_mpair, hr, hs]; omega) | rfl) rfl rfl (by first | with_reducible assumption | (rw [bv_length]; with_reducible assumption) | (rw [List.size_toArray, bv_length]; with_reducible assumption) | (simp [cat, length_join, length_mleaf, length_mpair, hr, hs]; done) | (simp [cat, length_join, length_mleaf, length_mpair, hr, hs]; omega) | rfl)) rfl ?_
                  intro _ w S
                  refine p_nil ?_
                  exact x_then ⟨_, rfl, _, _, upds_eq ⟨rfl, rfl, rfl, rfl, rfl, trivial⟩, length_join _ _, by rw [if_pos (by omega)]; rfl, S⟩
                · refine s_drawK (ks := [some b11, some b6, some b5]) (ps := [Ex _ _, Ex _ _, Ex _ _]) S [(true, 0), (true, 1), (true, 2), (true, 3), (false, 4)] [5] [5] mixed (by kernel_rfl) (by repeat (first | exact Calm.post _ _ _ | refine Calm.then ?_ _ | refine Calm.inB ?_ _)) (fun hS => ?_)
                  have S := S.drew
                  refine q_val (fun w hS => e_move (v := .slice _ _ _) rfl) rfl hS ?_
                  refine q_val (fun w hS => e_ixR (hS.rdOld R1 rfl) (by decide) rfl rfl Try.underlying24 sz29 (⟨by omega, by simp⟩)) rfl hS ?_
                  refine q_val (fun w hS => e_loadRA rfl ag29 sz29 (by decide) (Rd.sumA (hS.rdOld R1 rfl) (by with_reducible assumption) (⟨by omega, by simp⟩))) rfl hS ?_
                  refine q_val (fun w hS => e_loadW 0 rfl ag29 sz29 hS rfl rfl (by first | with_reducible assumption | (rw [bv_length]; with_reducible assumption) | (rw [List.size_toArray, bv_length]; with_reducible assumption) | (simp [cat, length_join, length_mleaf, length_mpair, hr, hs]; done) | (simp [cat, length_join, length_mleaf, length_mpair, hr, hs]; omega) | rfl)) rfl hS ?_
                  refine q_does (d_call Try.func85 nm85 rfl rfl (pair_calls _ 2 p now hp32 (by first | with_reducible assumption | (rw [bv_length]; with_reducible assumption) | (rw [List.size_toArray, bv_length]; with_reducible assumption) | (simp [cat, length_join, length_mleaf, length_mpair, hr, hs]; done) | (simp [cat, length_join, length_mleaf, length_mpair, hr, hs]; omega) | rfl))) rfl ?_
                  rintro _ w ⟨rfl, hB⟩
                  have S := S.below hB
                  have hS := S.pk [0, 1, 2] rfl
                  refine ⟨hS, ?_⟩
                  refine q_nil ?_
                  refine p_does (d_storeW S 0 rfl rfl (by first | exact bv_one _ | exact sv_one _ | exact iv_one _ | with_reducible assumption | (refine One.mem ?_; repeat (first | exact One.bv _ | exact One.sv _ | exact One.iv _ | exact One.nil | exact One.cat0 | refine One.cat1 ?_ ?_ | refine One.cons rfl ?_ | refine One.append ?_ ?_))) sz29 (by first | with_reducible assumption | (rw [bv_length]; with_reducible assumption) | (rw [List.size_toArray, bv_length]; with_reducible assumption) | (simp [cat, length_join, length_mleaf, length_mpair, hr, hs]; done) | (simp [cat, length_join, length_mleaf, length_mpair, hr, hs]; omega) | rfl) rfl rfl (by first | with_reducible assumption | (rw [bv_length]; with_reducible assumption) | (rw [List.size_toArray, bv_length]; with_reducible assumption) | (simp [cat, length_join, length_mleaf, length_mpair, hr, hs]; done) | (simp [cat, length_join, length_mleaf, length_mpair, hr, hs]; omega) | rfl)) rfl ?_
                  intro _ w S
                  refine p_nil ?_
                  exact x_then ⟨_, rfl, _, _, upds_eq ⟨rfl, rfl, rfl, rfl, rfl, trivial⟩, length_join _ _, by rw [if_neg (by omega)]; rfl, S⟩
              · rintro f w ⟨u, now3, rfl, hnl3, h3, S⟩
                refine x_then (s_plain ?_)
                have R3 : Rd w0 32 (if c1 = 1 then A1 else A1.map (·.add (1 * 32))) P3.length (sv P3) := by { have h9 := Rd.drop_sv (m := 1) hP R1 (by simp) cR1; simpa using h9 }
                refine p_val (e_move (v := .slice _ _ _) rfl) rfl ?_
                refine p_val (e_sl_l (1) rfl rfl (rfl) (by simp) Try.underlying24 sz29) rfl ?_
                refine p_val (e_assign (v := .slice _ _ _) rfl) rfl ?_
                refine p_nil ?_
                exact x_then ⟨_, rfl, _, _,  _,  P3,  _, upds_eq ⟨rfl, rfl, rfl, rfl, rfl, trivial⟩, hnl3, R3, fun x hx => hP x (by simp [hx]), by simp at cR1; omega, by rw [climbC_cons (by omega) (by omega), h3], S⟩
          · refine s_skip ?_
            exact x_then ⟨_, rfl, _, _,  _,  P1,  _, upds_eq ⟨rfl, rfl, rfl, rfl, rfl, trivial⟩, hnl, R1, hP, by first | omega | rfl | with_reducible assumption | (simp; done) | (simp; omega), (climbC_no (by omega) (by omega)).symm, S⟩
        · rintro f w ⟨u, A2, c2, P2, now2, rfl, hnl2, R2, hP2, cR2, hc2, S⟩
          refine x_then (s_plain ?_)
          refine p_val (e_move (v := .int _ _) rfl) rfl ?_
          refine p_val (e_quo64 rfl rfl (by omega)) rfl ?_
          refine p_val (e_move (v := .int _ _) rfl) rfl ?_
          refine p_val (e_add64 rfl rfl (by omega)) rfl ?_
          refine p_val (e_quo64 rfl rfl (by omega)) rfl ?_
          refine p_val (e_assign (v := .int _ _) rfl) rfl ?_
          refine p_val (e_assign (v := .int _ _) rfl) rfl ?_
          refine p_nil (x_in ?_)
          refine x_round ((n + 1) / 2) _ rfl ⟨_, b / 2,  _,  _,  P2,  _, upds_eq ⟨rfl, rfl, rfl, rfl, rfl, trivial⟩, hnl2, by first | omega | rfl | with_reducible assumption | (simp; done) | (simp; omega), by first | omega | rfl | with_reducible assumption | (simp; done) | (simp; omega), R2, hP2, by first | omega | rfl | with_reducible assumption | (simp; done) | (simp; omega), by rw [hc2]; exact hc, S⟩ (by omega)
      · refine s_exit (x_then_exit (x_then_exit (x_in_same (x_then (s_seq ?_)))))
        refine s_cutK (ks := [some b11, some b6, some b5]) (ps := [Ex _ _, Ex _ _, Ex _ _]) [] trivial S (fun keep ks ps f' w' => ∃ u bb, f' = upds u ((10, .bool bb) :: keep) ∧ (bb = true ↔ (P1 = [] ∧ now = r)) ∧ St w0 w' [] ks ps) ?_ ?_
        · refine s_plain ?_
          refine p_val (e_move (v := .slice _ _ _) rfl) rfl ?_
          refine p_val (e_len rfl Try.underlying24) rfl ?_
          refine p_valB (e_eql rfl rfl) rfl (fun hg56 => ?_) (fun hg56 => ?_)
          · refine p_val (e_move (v := .bool _) rfl) rfl ?_
            refine pg_val rfl rfl rfl rfl rfl (e_loadW 0 rfl ag29 sz29 S rfl rfl (by first | with_reducible assumption | (rw [bv_length]; with_reducible assumption) | (rw [List.size_toArray, bv_length]; with_reducible assumption) | (simp [cat, length_join, length_mleaf, length_mpair, hr, hs]; done) | (simp [cat, length_join, length_mleaf, length_mpair, hr, hs]; omega) | rfl)) ?_
            refine pg_val rfl rfl rfl rfl rfl (e_loadW 2 rfl ag29 sz29 S rfl rfl (by first | with_reducible assumption | (rw [bv_length]; with_reducible assumption) | (rw [List.size_toArray, bv_length]; with_reducible assumption) | (simp [cat, length_join, length_mleaf, length_mpair, hr, hs]; done) | (simp [cat, length_join, length_mleaf, length_mpair, hr, hs]; omega) | rfl)) ?_
            refine pg_val rfl rfl rfl rfl rfl (EqT.sum eq29 gd29 rfl rfl (by first | with_reducible assumption | (rw [bv_length]; with_reducible assumption) | (rw [List.size_toArray, bv_length]; with_reducible assumption) | (simp [cat, length_join, length_mleaf, length_mpair, hr, hs]; done) | (simp [cat, length_join, length_mleaf, length_mpair, hr, hs]; omega) | rfl) (by first | with_reducible assumption | (rw [bv_length]; with_reducible assumption) | (rw [List.size_toArray, bv_length]; with_reducible assumption) | (simp [cat, length_join, length_mleaf, length_mpair, hr, hs]; done) | (simp [cat, length_join, length_mleaf, length_mpair, hr, hs]; omega) | rfl)) ?_
            refine p_val (e_pick_t rfl rfl) rfl ?_
            refine p_val (e_assign (v := .bool _) rfl) rfl ?_
            exact p_nil (x_then ⟨_, rfl, _, _, upds_eq ⟨rfl, trivial⟩, by first | (simp; done) | (constructor <;> intro h <;> simp_all) | simp_all, S⟩)
          · refine p_val (e_move (v := .bool _) rfl) rfl ?_
            refine p_no rfl rfl rfl rfl rfl ?_
            refine p_no rfl rfl rfl rfl rfl ?_
            refine p_no rfl rfl rfl rfl rfl ?_
            refine p_val (e_pick_f rfl rfl) rfl ?_
            refine p_val (e_assign (v := .bool _) rfl) rfl ?_
            exact p_nil (x_then ⟨_, rfl, _, _, upds_eq ⟨rfl, trivial⟩, by first | (simp; done) | (constructor <;> intro h <;> simp_all) | simp_all, S⟩)
        · rintro f w ⟨u, b10, rfl, hb10, S⟩
          refine x_then (s_ret ?_)
          exact post1 (v := .bool _) Try.results38 rfl (⟨by congr 1; apply Bool.eq_iff_iff.2; rw [hb10, decide_eq_true_iff]; unfold mcheck; rw [Int.toNat_natCast, Int.toNat_natCast, ← hc, climbC_end (by omega)]; cases P1 with | nil => exact ⟨fun h => ⟨by omega, by omega, by omega, by rw [h.2]⟩, fun h => ⟨rfl, Option.some.inj h.2.2.2⟩⟩ | cons p P3 => exact ⟨fun h => absurd h.1 (by simp), fun h => absurd h.2.2.2 (by simp)⟩, S.to_below⟩)
end Go.Proofs.Ytdhfiamgmokfbaa

/- Small transactions, and lists of transactions summed, walked. It proves no statement by itself. -/
set_option linter.unusedSimpArgs false
set_option linter.unusedVariables false
set_option maxRecDepth 100000
set_option maxHeartbeats 1000000
namespace Go.Proofs.Ytdhfiamgmokfbaa
open Go Go.RowKit E
attribute [local irreducible] wpList seqH treeH
noncomputable instance (x : TxV) : Decidable (TxSm x) := Classical.propDecidable _
/-- few and small transactions -/
def TxsSm (L : Sl TxV) : Prop := L.n ≤ 20 ∧ ∀ x ∈ L.xs, TxSm x
noncomputable instance (L : Sl TxV) : Decidable (TxsSm L) := Classical.propDecidable _
abbrev TxsOk (w : World) (bs : List Nat) (L : Sl TxV) : Prop := Slr w bs 40 txV (TxOk w bs) L
theorem TxsOk.carry {w w' : World} {bs bs' : List Nat} {L : Sl TxV} (h : TxsOk w bs L) (C : Carry w bs w' bs') : TxsOk w' bs' L := Slr.carry (by decide) h C fun y hy => hy.carry C
theorem take_pre {α : Type} {q : α → Prop} {xs : List α} {g : Nat} {y : α} (h : xs[g]? = some y) (hp : ∀ z ∈ xs.take g, q z) (hy : q y) : ∀ z ∈ xs.take (g + 1), q z := by
  obtain ⟨hg, e⟩ := List.getElem?_eq_some_iff.1 h
  intro z hz
  rw [List.take_succ_eq_append_getElem hg, List.mem_append, List.mem_singleton, e] at hz
  rcases hz with hz | rfl
  · exact hp z hz
  · exact hy
theorem take_mapx {α β : Type} {c : α → β} {xs : List α} {g : Nat} {y : α} (h : xs[g]? = some y) : (xs.take (g + 1)).map c = (xs.take g).map c ++ [c y] := by
  obtain ⟨hg, e⟩ := List.getElem?_eq_some_iff.1 h
  rw [List.take_succ_eq_append_getElem hg, List.map_append, e]
  rfl
theorem txsums_all (l : List TxV) : All32 (l.map txsum) := by
  intro x hx
  obtain ⟨y, _, rfl⟩ := List.mem_map.1 hx
  exact length_txsum y
def sumsL (l : List TxV) (g : Nat) : List (List Nat) := (l.take g).map txsum ++ List.replicate (l.length - g) zsum
theorem sumsL_length {l : List TxV} {g : Nat} (h : g ≤ l.length) : (sumsL l g).length = l.length := by simp [sumsL]; omega
theorem sumsL_all {l : List TxV} {g : Nat} : All32 (sumsL l g) := by
  intro x hx
  rcases List.mem_append.1 hx with h | h
  · obtain ⟨y, _, rfl⟩ := List.mem_map.1 h; exact length_txsum y
  · rw [(List.mem_replicate.1 h).2]; exact length_zsum
theorem sumsL_step {l : List TxV} {g : Nat} {y : TxV} (h : l[g]? = some y) : (sumsL l g).set g (txsum y) = sumsL l (g + 1) := by
  obtain ⟨hg, e⟩ := List.getElem?_eq_some_iff.1 h
  unfold sumsL
  have h1 : ((l.take g).map txsum).length = g := by simp; omega
  rw [List.set_append_right _ _ (by omega), h1, Nat.sub_self, show l.length - g = (l.length - (g + 1)) + 1 by omega, List.replicate_succ, List.set_cons_zero, take_mapx h, List.append_assoc]
  rfl
theorem sumsL_done (l : List TxV) : sumsL l l.length = l.map txsum := by simp [sumsL]
theorem l8small (w0 : World) (x : TxV) (hX : TxOk w0 [] x) :
    Ret Try.prog 88 [.agg (cat (txC x)).toArray] w0 fun v w' => v = .int .i64 (if TxSm x then 0 else 1) ∧ Below w0.heap.size w0 w' := by
  refine enter Try.func88 rfl Try.ntmps88 (Nat.le_of_ble_eq_true rfl) ?_
  have S := St.init w0
  obtain ⟨i1, i2, i3, RI, oRI⟩ := hX.ins
  obtain ⟨o1, o2, o3, RO, oRO⟩ := hX.outs
  refine s_seq (s_plain ?_)
  refine p_does (d_boxA S rfl) rfl ?_
  rintro _ w ⟨b1, rfl, S⟩
  refine p_val (e_assign (v := .int _ _) rfl) rfl ?_
  refine p_nil (x_then (s_seq (s_seq ?_)))
  refine s_cutK (ks := [some b1]) (ps := [Ex _ _]) [(1, .pointer _)] ⟨rfl, trivial⟩ S (fun keep ks ps f' w' => ∃ u bb, f' = upds u ((28, .bool bb) :: keep) ∧ (bb = true ↔ (((20 < (x.ins.n : Int) ∨ 20 < (x.outs.n : Int)) ∨ 20 < (x.sn : Int)) ∨ 6000 < (x.data.n : Int))) ∧ St w0 w' [] ks ps) ?_ ?_
  · refine s_plain ?_
    refine p_val (e_field rfl Try.underlying87 rfl sz81 (by decide)) rfl ?_
    refine p_val (e_loadF1 (i := 0) (off := 0) rfl ag81 S (j := 0) rfl rfl rfl (by first | with_reducible assumption | (rw [bv_length]; with_reducible assumption) | (rw [List.size_toArray, bv_length]; with_reducible assumption) | (simp [cat, txC, Value.cells, hX.root]; done) | (simp [cat, txC, Value.cells, hX.root]; omega) | rfl)) rfl ?_
    refine p_val (e_len rfl Try.underlying81) rfl ?_
    refine p_valB (e_gtr rfl rfl) rfl (fun hg9 => ?_) (fun hg9 => ?_)
    · refine p_val (e_move (v := .bool _) rfl) rfl ?_
      refine p_no rfl rfl rfl rfl rfl ?_
      refine p_no rfl rfl rfl rfl rfl ?_
      refine p_no rfl rfl rfl rfl rfl ?_
      refine p_no rfl rfl rfl rfl rfl ?_
      refine p_val (e_pick_t rfl rfl) rfl ?_
      refine p_val (e_move (v := .bool _) rfl) rfl ?_
      refine p_no rfl rfl rfl rfl rfl ?_
      refine p_no rfl rfl rfl rfl rfl ?_
      refine p_no rfl rfl rfl rfl rfl ?_
      refine p_no rfl rfl rfl rfl rfl ?_
      refine p_val (e_pick_t rfl rfl) rfl ?_
      refine p_val (e_move (v := .bool _) rfl) rfl ?_
      refine p_no rfl rfl rfl rfl rfl ?_
      refine p_no rfl rfl rfl rfl rfl ?_
      refine p_no rfl rfl rfl rfl rfl ?_
      refine p_no rfl rfl rfl rfl rfl ?_
      refine p_no rfl rfl rfl rfl rfl ?_
      refine p_val (e_pick_t rfl rfl) rfl ?_
      exact p_nil (x_then ⟨_, rfl, _, _, upds_eq ⟨rfl, rfl, trivial⟩, by first | (simp only [decide_eq_true_eq, eq_self, true_iff, iff_true, iff_false, Bool.false_eq_true, false_iff, ge_iff_le, gt_iff_lt, true_and, and_true, false_and, and_false, true_or, or_true, false_or, or_false, not_true_eq_false, not_false_eq_true]; omega) | (simp; done) | omega | (simp_all; done), S⟩)
    · refine p_val (e_move (v := .bool _) rfl) rfl ?_
      refine pg_val rfl rfl rfl rfl rfl (e_field rfl Try.underlying87 rfl sz82 (by decide)) ?_
      refine pg_val rfl rfl rfl rfl rfl (e_loadF1 (i := 1) (off := 1) rfl ag82 S (j := 0) rfl rfl rfl (by first | with_reducible assumption | (rw [bv_length]; with_reducible assumption) | (rw [List.size_toArray, bv_length]; with_reducible assumption) | (simp [cat, txC, Value.cells, hX.root]; done) | (simp [cat, txC, Value.cells, hX.root]; omega) | rfl)) ?_
      refine pg_val rfl rfl rfl rfl rfl (e_len rfl Try.underlying82) ?_
      refine pg_valB rfl rfl rfl rfl rfl (e_gtr rfl rfl) (fun hg14 => ?_) (fun hg14 => ?_)
      · refine p_val (e_pick_f rfl rfl) rfl ?_
        refine p_val (e_move (v := .bool _) rfl) rfl ?_
        refine p_no rfl rfl rfl rfl rfl ?_
        refine p_no rfl rfl rfl rfl rfl ?_
        refine p_no rfl rfl rfl rfl rfl ?_
        refine p_no rfl rfl rfl rfl rfl ?_
        refine p_val (e_pick_t rfl rfl) rfl ?_
        refine p_val (e_move (v := .bool _) rfl) rfl ?_
        refine p_no rfl rfl rfl rfl rfl ?_
        refine p_no rfl rfl rfl rfl rfl ?_
        refine p_no rfl rfl rfl rfl rfl ?_
        refine p_no rfl rfl rfl rfl rfl ?_
        refine p_no rfl rfl rfl rfl rfl ?_
        refine p_val (e_pick_t rfl rfl) rfl ?_
        exact p_nil (x_then ⟨_, rfl, _, _, upds_eq ⟨rfl, rfl, trivial⟩, by first | (simp only [decide_eq_true_eq, eq_self, true_iff, iff_true, iff_false, Bool.false_eq_true, false_iff, ge_iff_le, gt_iff_lt, true_and, and_true, false_and, and_false, true_or, or_true, false_or, or_false, not_true_eq_false, not_false_eq_true]; omega) | (simp; done) | omega | (simp_all; done), S⟩)
      · refine p_val (e_pick_f rfl rfl) rfl ?_
        refine p_val (e_move (v := .bool _) rfl) rfl ?_
        refine pg_val rfl rfl rfl rfl rfl (e_field rfl Try.underlying87 rfl sz85 (by decide)) ?_
        refine pg_val rfl rfl rfl rfl rfl (e_loadF1 (i := 8) (off := 39) rfl ag85 S (j := 0) rfl rfl rfl (by first | with_reducible assumption | (rw [bv_length]; with_reducible assumption) | (rw [List.size_toArray, bv_length]; with_reducible assumption) | (simp [cat, txC, Value.cells, hX.root]; done) | (simp [cat, txC, Value.cells, hX.root]; omega) | rfl)) ?_
        refine pg_val rfl rfl rfl rfl rfl (e_len rfl Try.underlying85) ?_
        refine pg_valB rfl rfl rfl rfl rfl (e_gtr rfl rfl) (fun hg20 => ?_) (fun hg20 => ?_)
        · refine p_val (e_pick_f rfl rfl) rfl ?_
          refine p_val (e_move (v := .bool _) rfl) rfl ?_
          refine p_no rfl rfl rfl rfl rfl ?_
          refine p_no rfl rfl rfl rfl rfl ?_
          refine p_no rfl rfl rfl rfl rfl ?_
          refine p_no rfl rfl rfl rfl rfl ?_
          refine p_no rfl rfl rfl rfl rfl ?_
          refine p_val (e_pick_t rfl rfl) rfl ?_
          exact p_nil (x_then ⟨_, rfl, _, _, upds_eq ⟨rfl, rfl, trivial⟩, by first | (simp only [decide_eq_true_eq, eq_self, true_iff, iff_true, iff_false, Bool.false_eq_true, false_iff, ge_iff_le, gt_iff_lt, true_and, and_true, false_and, and_false, true_or, or_true, false_or, or_false, not_true_eq_false, not_false_eq_true]; omega) | (simp; done) | omega | (simp_all; done), S⟩)
        · refine p_val (e_pick_f rfl rfl) rfl ?_
          refine p_val (e_move (v := .bool _) rfl) rfl ?_
          refine pg_val rfl rfl rfl rfl rfl (e_field rfl Try.underlying87 rfl sz84 (by decide)) ?_
          refine pg_val rfl rfl rfl rfl rfl (e_field rfl Try.underlying84 rfl sz33 (by decide)) ?_
          refine pg_val rfl rfl rfl rfl rfl (e_loadF1 (i := 7) (off := 38) rfl ag33 S (j := 0) rfl rfl rfl (by first | with_reducible assumption | (rw [bv_length]; with_reducible assumption) | (rw [List.size_toArray, bv_length]; with_reducible assumption) | (simp [cat, txC, Value.cells, hX.root]; done) | (simp [cat, txC, Value.cells, hX.root]; omega) | rfl)) ?_
          refine pg_val rfl rfl rfl rfl rfl (e_len rfl Try.underlying33) ?_
          refine pg_val rfl rfl rfl rfl rfl (e_gtr rfl rfl) ?_
          refine p_val (e_pick_f rfl rfl) rfl ?_
          exact p_nil (x_then ⟨_, rfl, _, _, upds_eq ⟨rfl, rfl, trivial⟩, by first | (simp only [decide_eq_true_eq, eq_self, true_iff, iff_true, iff_false, Bool.false_eq_true, false_iff, ge_iff_le, gt_iff_lt, true_and, and_true, false_and, and_false, true_or, or_true, false_or, or_false, not_true_eq_false, not_false_eq_true]; omega) | (simp; done) | omega | (simp_all; done), S⟩)
  · rintro f w ⟨u, b28, rfl, hb28, S⟩
    refine x_then ?_
    refine s_condb rfl (fun hc28 => ?_) (fun hc28 => ?_)
    · have hp28 : (((20 < (x.ins.n : Int) ∨ 20 < (x.outs.n : Int)) ∨ 20 < (x.sn : Int)) ∨ 6000 < (x.data.n : Int)) := hb28.1 hc28
      refine s_seq (s_plain ?_)
      refine p_val (e_assign (v := .int _ _) rfl) rfl ?_
      refine p_nil (x_then (s_ret (x_then_ret ?_)))
      exact post1 (v := .int _ _) Try.results88 rfl (by rw [if_neg (fun h : TxSm x => by have := h.ins; have := h.outs; have := h.sn; have := h.data; omega)]; exact ⟨rfl, S.to_below⟩)
    · have hp28 : ¬ (((20 < (x.ins.n : Int) ∨ 20 < (x.outs.n : Int)) ∨ 20 < (x.sn : Int)) ∨ 6000 < (x.data.n : Int)) := fun h => by rw [hb28.2 h] at hc28; cases hc28
      refine s_skip (x_then (s_seq (s_seq (s_plain ?_))))
      refine p_val (e_assign (v := .int _ _) rfl) rfl ?_
      refine p_nil (x_then (s_block ?_))
      refine s_loopK (α := Nat) (ks := [some b1]) (ps := [Ex _ _]) [(1, .pointer _)] ⟨rfl, trivial⟩ S (fun keep ks ps g f' w' => ∃ u, f' = upds u ((3, .int .i64 (g : Int)) :: keep) ∧ (g ≤ x.ins.n) ∧ (∀ z ∈ x.ins.xs.take g, z.pre.n ≤ 100) ∧ St w0 w' [] [some b1] [(ps.getD 0 fun _ => True)]) (fun g => x.ins.n - g) (0) (⟨_, upds_eq ⟨rfl, rfl, trivial⟩, by first | omega | rfl | with_reducible assumption | (simp; done) | (simp; omega), by simp, S⟩) ?_
      rintro g f w ⟨u, rfl, hg, hp, S⟩
      refine s_seq (s_seq (s_plain ?_))
      refine p_val (e_move (v := .int _ _) rfl) rfl ?_
      refine p_val (e_field rfl Try.underlying87 rfl sz81 (by decide)) rfl ?_
      refine p_val (e_loadF1 (i := 0) (off := 0) rfl ag81 S (j := 0) rfl rfl rfl (by first | with_reducible assumption | (rw [bv_length]; with_reducible assumption) | (rw [List.size_toArray, bv_length]; with_reducible assumption) | (simp [cat, txC, Value.cells, hX.root]; done) | (simp [cat, txC, Value.cells, hX.root]; omega) | rfl)) rfl ?_
      refine p_val (e_len rfl Try.underlying81) rfl ?_
      refine p_val (e_lss rfl rfl) rfl ?_
      refine p_nil (x_then ?_)
      refine s_cond rfl (fun hc33 => ?_) (fun hc33 => ?_)
      · obtain ⟨y, hat0, hym⟩ := some_at i1 (g := g) (by omega)
        have hat : x.ins.xs[(g : Int).toNat]? = some y := hat0
        have hh := (i3 y hym).1
        refine s_skip (x_then (s_seq (s_block (s_seq (s_plain ?_)))))
        refine p_val (e_field rfl Try.underlying87 rfl sz81 (by decide)) rfl ?_
        refine p_val (e_loadF1 (i := 0) (off := 0) rfl ag81 S (j := 0) rfl rfl rfl (by first | with_reducible assumption | (rw [bv_length]; with_reducible assumption) | (rw [List.size_toArray, bv_length]; with_reducible assumption) | (simp [cat, txC, Value.cells, hX.root]; done) | (simp [cat, txC, Value.cells, hX.root]; omega) | rfl)) rfl ?_
        refine p_val (e_move (v := .int _ _) rfl) rfl ?_
        refine p_val (e_ixR (S.rdOld RI rfl) (by decide) rfl rfl Try.underlying81 sz144 (by omega)) rfl ?_
        refine p_val (e_fieldR (Rd.elemA (S.rdOld RI rfl) (fun x hx => inV_len (i3 x hx).1) (hat)) (by decide) rfl Try.underlying144 rfl sz33 (by decide)) rfl ?_
        refine p_val (e_loadR1 rfl ag33 ((Rd.part1 (Rd.elemA (S.rdOld RI rfl) (fun x hx => inV_len (i3 x hx).1) (hat)) 3 rfl (off := 34) (by first | with_reducible assumption | (rw [bv_length]; with_reducible assumption) | (rw [List.size_toArray, bv_length]; with_reducible assumption) | (simp [cat, txC, Value.cells, hX.root, inC, hh]; done) | (simp [cat, txC, Value.cells, hX.root, inC, hh]; omega) | rfl) (by first | with_reducible assumption | (rw [bv_length]; with_reducible assumption) | (rw [List.size_toArray, bv_length]; with_reducible assumption) | (simp [cat, txC, Value.cells, hX.root, inC, hh]; done) | (simp [cat, txC, Value.cells, hX.root, inC, hh]; omega) | rfl)))) rfl ?_
        refine p_val (e_len rfl Try.underlying33) rfl ?_
        refine p_val (e_gtr rfl rfl) rfl ?_
        refine p_nil (x_then ?_)
        refine s_cond rfl (fun hc43 => ?_) (fun hc43 => ?_)
        · refine s_seq (s_plain ?_)
          refine p_val (e_assign (v := .int _ _) rfl) rfl ?_
          refine p_nil (x_then (s_ret (x_in_ret (x_then_ret (x_then_ret (x_in_ret (x_then_ret ?_)))))))
          exact post1 (v := .int _ _) Try.results88 rfl (by rw [if_neg (fun h : TxSm x => by have := h.pre y hym; omega)]; exact ⟨rfl, S.to_below⟩)
        · refine s_skip (x_in (x_then (s_plain ?_)))
          refine p_val (e_move (v := .int _ _) rfl) rfl ?_
          refine p_val (e_add64 rfl rfl (by omega)) rfl ?_
          refine p_val (e_assign (v := .int _ _) rfl) rfl ?_
          refine p_nil ?_
          refine x_round (g + 1) _ rfl ⟨_, upds_eq ⟨rfl, rfl, trivial⟩, by first | omega | rfl | with_reducible assumption | (simp; done) | (simp; omega), take_pre hat0 hp (by omega), S⟩ (by omega)
      · refine s_exit (x_then_exit (x_then_exit (x_in_same (x_then (s_seq (s_seq (s_plain ?_)))))))
        obtain rfl : g = x.ins.n := by omega
        rw [← i1, List.take_length] at hp
        refine p_val (e_assign (v := .int _ _) rfl) rfl ?_
        refine p_nil (x_then (s_block ?_))
        refine s_loopK (α := Nat) (ks := [some b1]) (ps := [Ex _ _]) [(1, .pointer _)] ⟨rfl, trivial⟩ S (fun keep ks ps g f' w' => ∃ u, f' = upds u ((4, .int .i64 (g : Int)) :: keep) ∧ (g ≤ x.outs.n) ∧ (∀ z ∈ x.outs.xs.take g, z.ways.n ≤ 20 ∧ ∀ a ∈ z.ways.xs, a.keys.n ≤ 20) ∧ St w0 w' [] [some b1] [(ps.getD 0 fun _ => True)]) (fun g => x.outs.n - g) (0) (⟨_, upds_eq ⟨rfl, rfl, trivial⟩, by first | omega | rfl | with_reducible assumption | (simp; done) | (simp; omega), by simp, S⟩) ?_
        rintro g f w ⟨u, rfl, hg, hw, S⟩
        refine s_seq (s_seq (s_plain ?_))
        refine p_val (e_move (v := .int _ _) rfl) rfl ?_
        refine p_val (e_field rfl Try.underlying87 rfl sz82 (by decide)) rfl ?_
        refine p_val (e_loadF1 (i := 1) (off := 1) rfl ag82 S (j := 0) rfl rfl rfl (by first | with_reducible assumption | (rw [bv_length]; with_reducible assumption) | (rw [List.size_toArray, bv_length]; with_reducible assumption) | (simp [cat, txC, Value.cells, hX.root]; done) | (simp [cat, txC, Value.cells, hX.root]; omega) | rfl)) rfl ?_
        refine p_val (e_len rfl Try.underlying82) rfl ?_
        refine p_val (e_lss rfl rfl) rfl ?_
        refine p_nil (x_then ?_)
        refine s_cond rfl (fun hc48 => ?_) (fun hc48 => ?_)
        · obtain ⟨y, hat0, hym⟩ := some_at o1 (g := g) (by omega)
          have hat : x.outs.xs[(g : Int).toNat]? = some y := hat0
          obtain ⟨q1, q2, q3, RW, oRW⟩ := o3 y hym
          refine s_skip (x_then (s_seq (s_block (s_seq (s_seq (s_plain ?_))))))
          refine p_val (e_field rfl Try.underlying87 rfl sz82 (by decide)) rfl ?_
          refine p_val (e_loadF1 (i := 1) (off := 1) rfl ag82 S (j := 0) rfl rfl rfl (by first | with_reducible assumption | (rw [bv_length]; with_reducible assumption) | (rw [List.size_toArray, bv_length]; with_reducible assumption) | (simp [cat, txC, Value.cells, hX.root]; done) | (simp [cat, txC, Value.cells, hX.root]; omega) | rfl)) rfl ?_
          refine p_val (e_move (v := .int _ _) rfl) rfl ?_
          refine p_val (e_ixR (S.rdOld RO rfl) (by decide) rfl rfl Try.underlying82 sz147 (by omega)) rfl ?_
          refine p_val (e_fieldR (Rd.elemA (S.rdOld RO rfl) (fun x hx => rfl) (hat)) (by decide) rfl Try.underlying147 rfl sz145 (by decide)) rfl ?_
          refine p_val (e_loadR1 rfl ag145 ((Rd.part1 (Rd.elemA (S.rdOld RO rfl) (fun x hx => rfl) (hat)) 1 rfl (off := 1) (by first | with_reducible assumption | (rw [bv_length]; with_reducible assumption) | (rw [List.size_toArray, bv_length]; with_reducible assumption) | (simp [cat, txC, Value.cells, hX.root, outC]; done) | (simp [cat, txC, Value.cells, hX.root, outC]; omega) | rfl) (by first | with_reducible assumption | (rw [bv_length]; with_reducible assumption) | (rw [List.size_toArray, bv_length]; with_reducible assumption) | (simp [cat, txC, Value.cells, hX.root, outC]; done) | (simp [cat, txC, Value.cells, hX.root, outC]; omega) | rfl)))) rfl ?_
          refine p_val (e_len rfl Try.underlying145) rfl ?_
          refine p_val (e_gtr rfl rfl) rfl ?_
          refine p_nil (x_then ?_)
          refine s_cond rfl (fun hc58 => ?_) (fun hc58 => ?_)
          · refine s_seq (s_plain ?_)
            refine p_val (e_assign (v := .int _ _) rfl) rfl ?_
            refine p_nil (x_then (s_ret (x_then_ret (x_in_ret (x_then_ret (x_then_ret (x_in_ret (x_then_ret ?_))))))))
            exact post1 (v := .int _ _) Try.results88 rfl (by rw [if_neg (fun h : TxSm x => by have := h.ways y hym; omega)]; exact ⟨rfl, S.to_below⟩)
          · refine s_skip (x_then (s_seq (s_plain ?_)))
            refine p_val (e_assign (v := .int _ _) rfl) rfl ?_
            refine p_nil (x_then (s_block ?_))
            refine s_loopK (α := Nat) (ks := [some b1]) (ps := [Ex _ _]) [(1, .pointer _), (4, .int _ _)] ⟨rfl, rfl, trivial⟩ S (fun keep ks ps j f' w' => ∃ u, f' = upds u ((5, .int .i64 (j : Int)) :: keep) ∧ (j ≤ y.ways.n) ∧ (∀ a ∈ y.ways.xs.take j, a.keys.n ≤ 20) ∧ St w0 w' [] [some b1] [(ps.getD 0 fun _ => True)]) (fun j => y.ways.n - j) (0) (⟨_, upds_eq ⟨rfl, rfl, rfl, trivial⟩, by first | omega | rfl | with_reducible assumption | (simp; done) | (simp; omega), by simp, S⟩) ?_
            rintro j f w ⟨u, rfl, hj, hk, S⟩
            refine s_seq (s_seq (s_plain ?_))
            refine p_val (e_move (v := .int _ _) rfl) rfl ?_
            refine p_val (e_field rfl Try.underlying87 rfl sz82 (by decide)) rfl ?_
            refine p_val (e_loadF1 (i := 1) (off := 1) rfl ag82 S (j := 0) rfl rfl rfl (by first | with_reducible assumption | (rw [bv_length]; with_reducible assumption) | (rw [List.size_toArray, bv_length]; with_reducible assumption) | (simp [cat, txC, Value.cells, hX.root]; done) | (simp [cat, txC, Value.cells, hX.root]; omega) | rfl)) rfl ?_
            refine p_val (e_move (v := .int _ _) rfl) rfl ?_
            refine p_val (e_ixR (S.rdOld RO rfl) (by decide) rfl rfl Try.underlying82 sz147 (by omega)) rfl ?_
            refine p_val (e_fieldR (Rd.elemA (S.rdOld RO rfl) (fun x hx => rfl) (hat)) (by decide) rfl Try.underlying147 rfl sz145 (by decide)) rfl ?_
            refine p_val (e_loadR1 rfl ag145 ((Rd.part1 (Rd.elemA (S.rdOld RO rfl) (fun x hx => rfl) (hat)) 1 rfl (off := 1) (by first | with_reducible assumption | (rw [bv_length]; with_reducible assumption) | (rw [List.size_toArray, bv_length]; with_reducible assumption) | (simp [cat, txC, Value.cells, hX.root, outC]; done) | (simp [cat, txC, Value.cells, hX.root, outC]; omega) | rfl) (by first | with_reducible assumption | (rw [bv_length]; with_reducible assumption) | (rw [List.size_toArray, bv_length]; with_reducible assumption) | (simp [cat, txC, Value.cells, hX.root, outC]; done) | (simp [cat, txC, Value.cells, hX.root, outC]; omega) | rfl)))) rfl ?_
            refine p_val (e_len rfl Try.underlying145) rfl ?_
            refine p_val (e_lss rfl rfl) rfl ?_
            refine p_nil (x_then ?_)
            refine s_cond rfl (fun hc67 => ?_) (fun hc67 => ?_)
            · obtain ⟨z, hat1, hzm⟩ := some_at q1 (g := j) (by omega)
              have hat2 : y.ways.xs[(j : Int).toNat]? = some z := hat1
              have hz := (q3 z hzm).2
              refine s_skip (x_then (s_seq (s_block (s_seq (s_plain ?_)))))
              refine p_val (e_field rfl Try.underlying87 rfl sz82 (by decide)) rfl ?_
              refine p_val (e_loadF1 (i := 1) (off := 1) rfl ag82 S (j := 0) rfl rfl rfl (by first | with_reducible assumption | (rw [bv_length]; with_reducible assumption) | (rw [List.size_toArray, bv_length]; with_reducible assumption) | (simp [cat, txC, Value.cells, hX.root]; done) | (simp [cat, txC, Value.cells, hX.root]; omega) | rfl)) rfl ?_
              refine p_val (e_move (v := .int _ _) rfl) rfl ?_
              refine p_val (e_ixR (S.rdOld RO rfl) (by decide) rfl rfl Try.underlying82 sz147 (by omega)) rfl ?_
              refine p_val (e_fieldR (Rd.elemA (S.rdOld RO rfl) (fun x hx => rfl) (hat)) (by decide) rfl Try.underlying147 rfl sz145 (by decide)) rfl ?_
              refine p_val (e_loadR1 rfl ag145 ((Rd.part1 (Rd.elemA (S.rdOld RO rfl) (fun x hx => rfl) (hat)) 1 rfl (off := 1) (by first | with_reducible assumption | (rw [bv_length]; with_reducible assumption) | (rw [List.size_toArray, bv_length]; with_reducible assumption) | (simp [cat, txC, Value.cells, hX.root, outC]; done) | (simp [cat, txC, Value.cells, hX.root, outC]; omega) | rfl) (by first | with_reducible assumption | (rw [bv_length]; with_reducible assumption) | (rw [List.size_toArray, bv_length]; with_reducible assumption) | (simp [cat, txC, Value.cells, hX.root, outC]; done) | (simp [cat, txC, Value.cells, hX.root, outC]; omega) | rfl)))) rfl ?_
              refine p_val (e_move (v := .int _ _) rfl) rfl ?_
              refine p_val (e_ixR (S.rdOld RW rfl) (by decide) rfl rfl Try.underlying145 sz149 (by omega)) rfl ?_
              refine p_val (e_fieldR (Rd.elemA (S.rdOld RW rfl) (fun x hx => wayV_len (q3 x hx).2) (hat2)) (by decide) rfl Try.underlying149 rfl sz128 (by decide)) rfl ?_
              refine p_val (e_loadR1 rfl ag128 ((Rd.part1 (Rd.elemA (S.rdOld RW rfl) (fun x hx => wayV_len (q3 x hx).2) (hat2)) 0 rfl (off := 0) (by first | with_reducible assumption | (rw [bv_length]; with_reducible assumption) | (rw [List.size_toArray, bv_length]; with_reducible assumption) | (simp [cat, txC, Value.cells, hX.root, wayC, hz]; done) | (simp [cat, txC, Value.cells, hX.root, wayC, hz]; omega) | rfl) (by first | with_reducible assumption | (rw [bv_length]; with_reducible assumption) | (rw [List.size_toArray, bv_length]; with_reducible assumption) | (simp [cat, txC, Value.cells, hX.root, wayC, hz]; done) | (simp [cat, txC, Value.cells, hX.root, wayC, hz]; omega) | rfl)))) rfl ?_
              refine p_val (e_len rfl Try.underlying128) rfl ?_
              refine p_val (e_gtr rfl rfl) rfl ?_
              refine p_nil (x_then ?_)
              refine s_cond rfl (fun hc81 => ?_) (fun hc81 => ?_)
              · refine s_seq (s_plain ?_)
                refine p_val (e_assign (v := .int _ _) rfl) rfl ?_
                refine p_nil (x_then (s_ret (x_in_ret (x_then_ret (x_then_ret (x_in_ret (x_in_ret (x_then_ret (x_then_ret (x_in_ret (x_then_ret ?_)))))))))))
                exact post1 (v := .int _ _) Try.results88 rfl (by rw [if_neg (fun h : TxSm x => by have := h.keys y hym z hzm; omega)]; exact ⟨rfl, S.to_below⟩)
              · refine s_skip (x_in (x_then (s_plain ?_)))
                refine p_val (e_move (v := .int _ _) rfl) rfl ?_
                refine p_val (e_add64 rfl rfl (by omega)) rfl ?_
                refine p_val (e_assign (v := .int _ _) rfl) rfl ?_
                refine p_nil ?_
                refine x_round (j + 1) _ rfl ⟨_, upds_eq ⟨rfl, rfl, rfl, trivial⟩, by first | omega | rfl | with_reducible assumption | (simp; done) | (simp; omega), take_pre hat1 hk (by omega), S⟩ (by omega)
            · refine s_exit (x_then_exit (x_then_exit (x_in_same (x_in (x_then (s_plain ?_))))))
              refine p_val (e_move (v := .int _ _) rfl) rfl ?_
              refine p_val (e_add64 rfl rfl (by omega)) rfl ?_
              refine p_val (e_assign (v := .int _ _) rfl) rfl ?_
              refine p_nil ?_
              refine x_round (g + 1) _ rfl ⟨_, upds_eq ⟨rfl, rfl, trivial⟩, by first | omega | rfl | with_reducible assumption | (simp; done) | (simp; omega), take_pre hat0 hw ⟨by omega, by obtain rfl : j = y.ways.n := (by omega); rw [← q1, List.take_length] at hk; exact hk⟩, S⟩ (by omega)
        · refine s_exit (x_then_exit (x_then_exit (x_in_same (x_then (s_seq (s_plain ?_))))))
          refine p_val (e_assign (v := .int _ _) rfl) rfl ?_
          refine p_nil (x_then (s_ret ?_))
          exact post1 (v := .int _ _) Try.results88 rfl (by obtain rfl : g = x.outs.n := (by omega); rw [← o1, List.take_length] at hw; rw [if_pos ⟨by omega, by omega, by omega, by omega, hp, fun y hy => (hw y hy).1, fun y hy => (hw y hy).2⟩]; exact ⟨rfl, S.to_below⟩)
theorem l19small (w0 : World) (L : Sl TxV) (hL : TxsOk w0 [] L) :
    Ret Try.prog 48 [.slice L.A L.n L.c] w0 fun v w' => v = .bool (decide (TxsSm L)) ∧ Below w0.heap.size w0 w' := by
  refine enter Try.func48 rfl Try.ntmps48 (Nat.le_of_ble_eq_true rfl) ?_
  have S := St.init w0
  obtain ⟨i1, i2, i3, R, oR⟩ := hL
  refine s_seq (s_plain ?_)
  refine p_val (e_assign (v := .bool _) rfl) rfl ?_
  refine p_nil (x_then (s_seq (s_seq (s_plain ?_))))
  refine p_val (e_move (v := .slice _ _ _) rfl) rfl ?_
  refine p_val (e_len rfl Try.underlying67) rfl ?_
  refine p_val (e_gtr rfl rfl) rfl ?_
  refine p_nil (x_then ?_)
  refine s_cond rfl (fun hc6 => ?_) (fun hc6 => ?_)
  · refine s_seq (s_plain ?_)
    refine p_val (e_assign (v := .bool _) rfl) rfl ?_
    refine p_nil (x_then (s_ret (x_then_ret ?_)))
    exact post1 (v := .bool _) Try.results48 rfl (by rw [decide_eq_false (fun h : TxsSm L => by have := h.1; omega)]; exact ⟨rfl, S.to_below⟩)
  · refine s_skip (x_then (s_seq (s_seq (s_plain ?_))))
    refine p_val (e_assign (v := .int _ _) rfl) rfl ?_
    refine p_nil (x_then (s_block ?_))
    refine s_loopK (α := Nat) (ks := []) (ps := []) [(0, .slice _ _ _)] ⟨rfl, trivial⟩ S (fun keep ks ps g f' w' => ∃ u, f' = upds u ((3, .int .i64 (g : Int)) :: keep) ∧ (g ≤ L.n) ∧ (∀ z ∈ L.xs.take g, TxSm z) ∧ St w0 w' [] [] []) (fun g => L.n - g) (0) (⟨_, upds_eq ⟨rfl, rfl, trivial⟩, by first | omega | rfl | with_reducible assumption | (simp; done) | (simp; omega), by simp, S⟩) ?_
    rintro g f w ⟨u, rfl, hg, hp, S⟩
    refine s_seq (s_seq (s_plain ?_))
    refine p_val (e_move (v := .int _ _) rfl) rfl ?_
    refine p_val (e_move (v := .slice _ _ _) rfl) rfl ?_
    refine p_val (e_len rfl Try.underlying67) rfl ?_
    refine p_val (e_lss rfl rfl) rfl ?_
    refine p_nil (x_then ?_)
    refine s_cond rfl (fun hc10 => ?_) (fun hc10 => ?_)
    · obtain ⟨y, hat0, hym⟩ := some_at i1 (g := g) (by omega)
      have hat : L.xs[(g : Int).toNat]? = some y := hat0
      have hh := i3 y hym
      refine s_skip (x_then (s_seq (s_block (s_seq (s_plain ?_)))))
      refine p_val (e_move (v := .slice _ _ _) rfl) rfl ?_
      refine p_val (e_move (v := .int _ _) rfl) rfl ?_
      refine p_val (e_ixR (S.rdOld R rfl) (by decide) rfl rfl Try.underlying67 sz87 (by omega)) rfl ?_
      refine p_val (e_loadRA rfl ag87 sz87 (by decide) ((Rd.elemA (S.rdOld R rfl) (fun x hx => txV_len (i3 x hx).root) (hat)))) rfl ?_
      refine p_does (d_call Try.func88 nm88 rfl rfl (l8small _ y (hh.carry (S.carry0)))) rfl ?_
      rintro _ w ⟨rfl, hB⟩
      have S := S.below hB
      refine p_val (e_neq rfl rfl) rfl ?_
      refine p_nil (x_then ?_)
      refine s_cond rfl (fun hc18 => ?_) (fun hc18 => ?_)
      · refine s_seq (s_plain ?_)
        refine p_val (e_assign (v := .bool _) rfl) rfl ?_
        refine p_nil (x_then (s_ret (x_in_ret (x_then_ret (x_then_ret (x_in_ret (x_then_ret ?_)))))))
        exact post1 (v := .bool _) Try.results48 rfl (by rw [decide_eq_false (fun h : TxsSm L => by apply hc18; rw [if_pos (h.2 y hym)])]; exact ⟨rfl, S.to_below⟩)
      · refine s_skip (x_in (x_then (s_plain ?_)))
        refine p_val (e_move (v := .int _ _) rfl) rfl ?_
        refine p_val (e_add64 rfl rfl (by omega)) rfl ?_
        refine p_val (e_assign (v := .int _ _) rfl) rfl ?_
        refine p_nil ?_
        refine x_round (g + 1) _ rfl ⟨_, upds_eq ⟨rfl, rfl, trivial⟩, by first | omega | rfl | with_reducible assumption | (simp; done) | (simp; omega), take_pre hat0 hp (Classical.byContradiction fun h => by rw [if_neg h] at hc18; exact hc18 (by decide)), S⟩ (by omega)
    · refine s_exit (x_then_exit (x_then_exit (x_in_same (x_then (s_seq (s_plain ?_))))))
      refine p_val (e_assign (v := .bool _) rfl) rfl ?_
      refine p_nil (x_then (s_ret ?_))
      exact post1 (v := .bool _) Try.results48 rfl (by obtain rfl : g = L.n := (by omega); rw [← i1, List.take_length] at hp; rw [decide_eq_true ⟨by omega, hp⟩]; exact ⟨rfl, S.to_below⟩)
theorem bk_sums (w0 : World) (L : Sl TxV) (hL : TxsOk w0 [] L) (hn : L.n ≤ 1000) (hs : ∀ x ∈ L.xs, TxSm x) :
    Ret Try.prog 89 [.slice L.A L.n L.c] w0 fun v w' => ∃ k c, v = .slice (at_ k) (L.xs.map txsum).length c ∧ St w0 w' [] [k] [Rw 29 32 (L.xs.map txsum).length c (sv (L.xs.map txsum))] := by
  refine enter Try.func89 rfl Try.ntmps89 (Nat.le_of_ble_eq_true rfl) ?_
  have S := St.init w0
  obtain ⟨i1, i2, i3, R, oR⟩ := hL
  refine s_seq (s_plain ?_)
  refine p_val (e_assign (v := .slice _ _ _) rfl) rfl ?_
  refine p_nil (x_then (s_seq (s_plain ?_)))
  refine p_val (e_move (v := .slice _ _ _) rfl) rfl ?_
  refine p_val (e_len rfl Try.underlying67) rfl ?_
  refine p_does (d_makeN (c := bv) (z0 := zsum) S Try.underlying24 el29 zvS rfl L.n rfl rfl (by omega) (by unfold maxLen; omega)) rfl ?_
  rintro _ w ⟨b8, rfl, S⟩
  refine p_val (e_assign (v := .slice _ _ _) rfl) rfl ?_
  refine p_nil (x_then (s_seq (s_seq (s_plain ?_))))
  refine p_val (e_move (v := .slice _ _ _) rfl) rfl ?_
  refine p_val (e_len rfl Try.underlying67) rfl ?_
  refine p_val (e_move (v := .int _ _) rfl) rfl ?_
  refine p_nil (x_then (s_block ?_))
  refine s_loopK (α := Nat) (ks := [some b8]) (ps := [Rw _ _ _ _ _]) [(3, .slice _ _ _), (9, .slice _ _ _), (10, .int _ _)] ⟨rfl, rfl, rfl, trivial⟩ S (fun keep ks ps g f' w' => ∃ u xs, f' = upds u ((11, .int .i64 (g : Int)) :: keep) ∧ (g ≤ L.n) ∧ (xs = sv (sumsL L.xs g)) ∧ St w0 w' [] [some b8] [Rw 29 32 L.n L.n xs]) (fun g => L.n - g) (0) (⟨_, _, upds_eq ⟨rfl, rfl, rfl, rfl, trivial⟩, by first | omega | rfl | with_reducible assumption | (simp; done) | (simp; omega), by simp [sumsL, sv, i1], S⟩) ?_
  rintro g f w ⟨u, xs, rfl, hg, rfl, S⟩
  refine s_seq (s_plain ?_)
  refine p_val (e_lss rfl rfl) rfl ?_
  refine p_nil (x_then (s_seq ?_))
  refine s_cond rfl (fun hc12 => ?_) (fun hc12 => ?_)
  · obtain ⟨y, hat0, hym⟩ := some_at i1 (g := g) (by omega)
    have hat : L.xs[(g : Int).toNat]? = some y := hat0
    have hh := i3 y hym
    have hrt := hh.root
    refine s_skip (x_then (s_seq (s_block (s_seq (s_plain ?_)))))
    refine p_val (e_move (v := .int _ _) rfl) rfl ?_
    refine p_val (e_ixR (S.rdOld R rfl) (by decide) rfl rfl Try.underlying67 sz87 (by omega)) rfl ?_
    refine p_val (e_loadRA rfl ag87 sz87 (by decide) ((Rd.elemA (S.rdOld R rfl) (fun x hx => txV_len (i3 x hx).root) (hat)))) rfl ?_
    refine p_does (d_allocA S zs87) rfl ?_
    rintro _ w ⟨b5, rfl, S⟩
    refine p_val (e_assign (v := .int _ _) rfl) rfl ?_
    refine p_does (d_storeW S 0 rfl rfl (by intro v hv; simp [txV, txC, cat] at hv; rcases hv with rfl | rfl | rfl | rfl | rfl | rfl | hv | rfl | rfl; rfl; rfl; rfl; rfl; rfl; rfl; exact bv_one _ _ hv; rfl; rfl) sz87 (by first | with_reducible assumption | (rw [bv_length]; with_reducible assumption) | (rw [List.size_toArray, bv_length]; with_reducible assumption) | (simp [cat, length_txsum, txC, txC, txV, hrt]; done) | (simp [cat, length_txsum, txC, txC, txV, hrt]; omega) | rfl) rfl rfl (by first | with_reducible assumption | (rw [bv_length]; with_reducible assumption) | (rw [List.size_toArray, bv_length]; with_reducible assumption) | (simp [cat, length_txsum, txC, txC, txV, hrt]; done) | (simp [cat, length_txsum, txC, txC, txV, hrt]; omega) | rfl)) rfl ?_
    intro _ w S
    refine p_nil (x_then (s_plain ?_))
    refine p_val (e_move (v := .slice _ _ _) rfl) rfl ?_
    refine p_val (e_move (v := .int _ _) rfl) rfl ?_
    refine p_val (e_loadW 0 rfl ag87 sz87 S rfl rfl (by first | with_reducible assumption | (rw [bv_length]; with_reducible assumption) | (rw [List.size_toArray, bv_length]; with_reducible assumption) | (simp [cat, length_txsum, txC, txC, txV, hrt]; done) | (simp [cat, length_txsum, txC, txC, txV, hrt]; omega) | rfl)) rfl ?_
    refine p_does (d_call Try.func57 nm57 rfl rfl (tx_sum _ y (hh.carry (S.carry0)) (hs y hym))) rfl ?_
    rintro _ w ⟨rfl, hB⟩
    have S := S.below hB
    refine p_val (e_ixR (S.rdRw 1 rfl rfl) (by decide) rfl rfl Try.underlying24 sz29 (by omega)) rfl ?_
    refine p_does (d_storeRwN S 1 rfl rfl rfl rfl (bv_one _) sz29 (by simp [length_txsum]) (by omega) (by decide)) rfl ?_
    intro _ w S
    refine p_nil (x_in (x_then (s_plain ?_)))
    refine p_val (e_add64 rfl rfl (by omega)) rfl ?_
    refine p_val (e_move (v := .int _ _) rfl) rfl ?_
    refine p_nil ?_
    refine x_round (g + 1) _ rfl ⟨_, _, upds_eq ⟨rfl, rfl, rfl, rfl, trivial⟩, by first | omega | rfl | with_reducible assumption | (simp; done) | (simp; omega), by rw [Int.toNat_natCast, sv_put sumsL_all (by rw [sumsL_length (by omega)]; omega), sumsL_step hat0], S.pk [1] rfl⟩ (by omega)
  · refine s_exit (x_then_exit (x_then_exit (x_in_same (x_then (s_seq (s_plain ?_))))))
    refine p_val (e_move (v := .slice _ _ _) rfl) rfl ?_
    refine p_val (e_assign (v := .slice _ _ _) rfl) rfl ?_
    refine p_nil (x_then (s_ret ?_))
    exact post1 (v := .slice _ _ _) Try.results89 rfl (by obtain rfl : g = L.n := (by omega); rw [← i1, sumsL_done] at S; exact ⟨some b8, L.n, by rw [List.length_map, i1], by rw [List.length_map, ← i1]; exact S.pk [0] rfl⟩)
theorem l19sums (w0 : World) (L : Sl TxV) (hL : TxsOk w0 [] L) (hn : L.n ≤ 1000) (hs : ∀ x ∈ L.xs, TxSm x) :
    Ret Try.prog 50 [.slice L.A L.n L.c] w0 fun v w' => ∃ k c, v = .slice (at_ k) (L.xs.map txsum).length c ∧ St w0 w' [] [k] [Rw 29 32 (L.xs.map txsum).length c (sv (L.xs.map txsum))] := by
  refine enter Try.func50 rfl Try.ntmps50 (Nat.le_of_ble_eq_true rfl) ?_
  have S := St.init w0
  obtain ⟨i1, i2, i3, R, oR⟩ := hL
  refine s_seq (s_plain ?_)
  refine p_val (e_assign (v := .slice _ _ _) rfl) rfl ?_
  refine p_nil (x_then (s_seq (s_plain ?_)))
  refine p_val (e_assign (v := .slice _ _ _) rfl) rfl ?_
  refine p_nil (x_then (s_seq (s_seq (s_plain ?_))))
  refine p_val (e_assign (v := .int _ _) rfl) rfl ?_
  refine p_nil (x_then (s_block ?_))
  have S := S.addNil 29 32
  refine s_loopK (α := Nat) (ks := [none]) (ps := [Rw _ _ _ _ _]) [(0, .slice _ _ _)] ⟨rfl, trivial⟩ S (fun keep ks ps g f' w' => ∃ u Kk3 Ck3 xs, f' = upds u ((3, .slice (at_ Kk3) (g) Ck3) :: (4, .int .i64 (g : Int)) :: keep) ∧ (g ≤ L.n) ∧ (xs = sv ((L.xs.take g).map txsum)) ∧ St w0 w' [] [Kk3] [Rw 29 32 (g) Ck3 (xs)]) (fun g => L.n - g) (0) (⟨_, _, _, _, upds_eq ⟨rfl, rfl, rfl, trivial⟩, by first | omega | rfl | with_reducible assumption | (simp; done) | (simp; omega), by simp [sv], S⟩) ?_
  rintro g f w ⟨u, Kk3, Ck3, xs, rfl, hg, rfl, S⟩
  refine s_seq (s_seq (s_plain ?_))
  refine p_val (e_move (v := .int _ _) rfl) rfl ?_
  refine p_val (e_move (v := .slice _ _ _) rfl) rfl ?_
  refine p_val (e_len rfl Try.underlying67) rfl ?_
  refine p_val (e_lss rfl rfl) rfl ?_
  refine p_nil (x_then ?_)
  refine s_cond rfl (fun hc8 => ?_) (fun hc8 => ?_)
  · obtain ⟨y, hat0, hym⟩ := some_at i1 (g := g) (by omega)
    have hat : L.xs[(g : Int).toNat]? = some y := hat0
    have hh := i3 y hym
    refine s_skip (x_then (s_seq (s_block (s_plain ?_))))
    refine p_val (e_move (v := .slice _ _ _) rfl) rfl ?_
    refine p_val (e_move (v := .slice _ _ _) rfl) rfl ?_
    refine p_val (e_move (v := .int _ _) rfl) rfl ?_
    refine p_val (e_ixR (S.rdOld R rfl) (by decide) rfl rfl Try.underlying67 sz87 (by omega)) rfl ?_
    refine p_val (e_loadRA rfl ag87 sz87 (by decide) ((Rd.elemA (S.rdOld R rfl) (fun x hx => txV_len (i3 x hx).root) (hat)))) rfl ?_
    refine p_does (d_call Try.func57 nm57 rfl rfl (tx_sum _ y (hh.carry (S.carry0)) (hs y hym))) rfl ?_
    rintro _ w ⟨rfl, hB⟩
    have S := S.below hB
    refine p_does (d_litS S Try.underlying24 sz29 zv29 rfl (L := [_]) rfl rfl (by intro x hx; simp at hx; simp [hx, length_txsum, txC]) (by decide)) rfl ?_
    rintro _ w ⟨b17, rfl, S⟩
    refine p_does (d_append S 1 rfl rfl Try.underlying24 el29 rfl rfl (S.rdRw 0 rfl rfl) (by first | exact bv_one _ | exact sv_one _ | exact iv_one _ | with_reducible assumption | (refine One.mem ?_; repeat (first | exact One.bv _ | exact One.sv _ | exact One.iv _ | exact One.nil | exact One.cat0 | refine One.cat1 ?_ ?_ | refine One.cons rfl ?_ | refine One.append ?_ ?_))) (by first | omega | (simp only [List.length_append, List.length_cons, List.length_nil, bv_length, length_txsum, txC]; omega) | (simp [cat, length_txsum, txC]; omega)) (by unfold maxLen; first | omega | (simp only [List.length_append, List.length_cons, List.length_nil, bv_length, length_txsum, txC]; omega))) rfl ?_
    rintro _ w ⟨k18, c18, rfl, S⟩
    refine p_val (e_assign (v := .slice _ _ _) rfl) rfl ?_
    refine p_nil (x_in (x_then (s_plain ?_)))
    refine p_val (e_move (v := .int _ _) rfl) rfl ?_
    refine p_val (e_add64 rfl rfl (by omega)) rfl ?_
    refine p_val (e_assign (v := .int _ _) rfl) rfl ?_
    refine p_nil ?_
    refine x_round (g + 1) _ rfl ⟨_, _, _, _, upds_eq ⟨rfl, rfl, rfl, trivial⟩, by first | omega | rfl | with_reducible assumption | (simp; done) | (simp; omega), by rw [← sv_append, take_mapx hat0], S.pk [1] rfl⟩ (by omega)
  · refine s_exit (x_then_exit (x_then_exit (x_in_same (x_then (s_seq (s_plain ?_))))))
    refine p_val (e_move (v := .slice _ _ _) rfl) rfl ?_
    refine p_val (e_assign (v := .slice _ _ _) rfl) rfl ?_
    refine p_nil (x_then (s_ret ?_))
    exact post1 (v := .slice _ _ _) Try.results50 rfl (by obtain rfl : g = L.n := (by omega); rw [← i1, List.take_length] at S; exact ⟨_, _, by rw [List.length_map, i1], by rw [List.length_map]; exact S.pk [0] rfl⟩)
end Go.Proofs.Ytdhfiamgmokfbaa

/- Heads and blocks, walked. It proves no statement by itself. -/
set_option linter.unusedSimpArgs false
set_option linter.unusedVariables false
set_option maxRecDepth 100000
set_option maxHeartbeats 1000000
namespace Go.Proofs.Ytdhfiamgmokfbaa
open Go Go.RowKit E
attribute [local irreducible] wpList seqH treeH
structure HeadV where
  ahead : List Nat
  height : Int
  root : List Nat
  many : Int
def HeadV.ok (h : HeadV) : Prop := h.ahead.length = 32 ∧ h.root.length = 32
def headC (h : HeadV) : List (List Value) := [bv h.ahead, [.int .i64 h.height], bv h.root, [.int .i64 h.many]]
def blkC (h : HeadV) (A : Option Addr) (n c : Nat) : List (List Value) := [bv h.ahead, [.int .i64 h.height], bv h.root, [.int .i64 h.many], [.slice A n c]]
def headB (h : HeadV) : List Nat := h.ahead ++ num h.height ++ h.root ++ num h.many
@[irreducible] def hsum (h : HeadV) : List Nat := join 81 [headB h]
theorem length_hsum (h : HeadV) : (hsum h).length = 32 := by unfold hsum; exact length_join _ _
theorem headB_len {h : HeadV} (hk : h.ok) : (headB h).length ≤ 100 := by
  have h1 := num_len h.height
  have h2 := num_len h.many
  have h3 := hk.1
  have h4 := hk.2
  unfold headB
  simp only [List.length_append]; omega
def head0 : HeadV := ⟨zsum, 0, zsum, 0⟩
theorem head0_ok : head0.ok := ⟨length_zsum, length_zsum⟩
/-- what a block behind a head is -/
def mkE (h : HeadV) (n : Nat) : Int := if h.height < 0 ∨ 1073741824 ≤ h.height then 5 else if 64 < n then 6 else 0
def mkH (h : HeadV) (L : Sl TxV) : HeadV := if mkE h L.n = 0 then ⟨hsum h, h.height + 1, mroot (L.xs.map txsum), L.n⟩ else head0
def mkX (h : HeadV) (L : Sl TxV) : List TxV := if mkE h L.n = 0 then L.xs else []
def bright (h : HeadV) (L : Sl TxV) : Prop := h.many = L.n ∧ h.many ≤ 64 ∧ 0 ≤ h.height ∧ h.height ≤ 1073741824 ∧ h.root = mroot (L.xs.map txsum)
instance (h : HeadV) (L : Sl TxV) : Decidable (bright h L) := by unfold bright; infer_instance
theorem bh_sum (w0 : World) (h : HeadV) (hk : h.ok) :
    Ret Try.prog 53 [.agg (cat (headC h)).toArray] w0 fun v w' => v = .agg (bv (hsum h)).toArray ∧ Below w0.heap.size w0 w' := by
  refine enter Try.func53 rfl Try.ntmps53 (Nat.le_of_ble_eq_true rfl) ?_
  have S := St.init w0
  have hbl := headB_len hk
  have n1 := num_len h.height
  have n2 := num_len h.many
  have k1 := hk.1
  have k2 := hk.2
  refine s_seq (s_plain ?_)
  refine p_does (d_boxA S rfl) rfl ?_
  rintro _ w ⟨b1, rfl, S⟩
  refine p_does (d_allocA S zvS) rfl ?_
  rintro _ w ⟨b2, rfl, S⟩
  refine p_nil (x_then (s_seq (s_plain ?_)))
  refine p_does (d_allocA S zs98) rfl ?_
  rintro _ w ⟨b3, rfl, S⟩
  have S := pen_new S
  refine p_nil (x_then (s_seq ?_))
  refine s_drawK (ks := [some b2, some b1]) (ps := [Ex _ _, Ex _ _]) (S.pk [2, 3] rfl) [(true, 0), (true, 1), (true, 3), (true, 4), (true, 6), (true, 7), (true, 9), (true, 10), (false, 2), (false, 5), (false, 8), (false, 11), (false, 12)] [13] [13] mixed (by kernel_rfl) (by repeat (first | exact Calm.post _ _ _ | refine Calm.then ?_ _ | refine Calm.inB ?_ _)) (fun hS => ?_)
  have S := S.drew
  refine q_val (fun w hS => e_field rfl Try.underlying66 rfl sz29 (by decide)) rfl hS ?_
  refine q_val (fun w hS => e_loadFA (i := 0) (off := 0) rfl ag29 sz29 (by decide) hS (j := 1) rfl rfl rfl (by first | with_reducible assumption | (rw [bv_length]; with_reducible assumption) | (rw [List.size_toArray, bv_length]; with_reducible assumption) | (simp [cat, headC, hk.1, hk.2, length_zsum, length_hsum]; done) | (simp [cat, headC, hk.1, hk.2, length_zsum, length_hsum]; omega) | rfl) (by first | with_reducible assumption | (rw [bv_length]; with_reducible assumption) | (rw [List.size_toArray, bv_length]; with_reducible assumption) | (simp [cat, headC, hk.1, hk.2, length_zsum, length_hsum]; done) | (simp [cat, headC, hk.1, hk.2, length_zsum, length_hsum]; omega) | rfl)) rfl hS ?_
  refine q_val (fun w hS => e_field rfl Try.underlying66 rfl sz3 (by decide)) rfl hS ?_
  refine q_val (fun w hS => e_loadF1 (i := 1) (off := 32) rfl ag3 hS (j := 1) rfl rfl rfl (by first | with_reducible assumption | (rw [bv_length]; with_reducible assumption) | (rw [List.size_toArray, bv_length]; with_reducible assumption) | (simp [cat, headC, hk.1, hk.2, length_zsum, length_hsum]; done) | (simp [cat, headC, hk.1, hk.2, length_zsum, length_hsum]; omega) | rfl)) rfl hS ?_
  refine q_val (fun w hS => e_field rfl Try.underlying66 rfl sz29 (by decide)) rfl hS ?_
  refine q_val (fun w hS => e_loadFA (i := 2) (off := 33) rfl ag29 sz29 (by decide) hS (j := 1) rfl rfl rfl (by first | with_reducible assumption | (rw [bv_length]; with_reducible assumption) | (rw [List.size_toArray, bv_length]; with_reducible assumption) | (simp [cat, headC, hk.1, hk.2, length_zsum, length_hsum]; done) | (simp [cat, headC, hk.1, hk.2, length_zsum, length_hsum]; omega) | rfl) (by first | with_reducible assumption | (rw [bv_length]; with_reducible assumption) | (rw [List.size_toArray, bv_length]; with_reducible assumption) | (simp [cat, headC, hk.1, hk.2, length_zsum, length_hsum]; done) | (simp [cat, headC, hk.1, hk.2, length_zsum, length_hsum]; omega) | rfl)) rfl hS ?_
  refine q_val (fun w hS => e_field rfl Try.underlying66 rfl sz3 (by decide)) rfl hS ?_
  refine q_val (fun w hS => e_loadF1 (i := 3) (off := 65) rfl ag3 hS (j := 1) rfl rfl rfl (by first | with_reducible assumption | (rw [bv_length]; with_reducible assumption) | (rw [List.size_toArray, bv_length]; with_reducible assumption) | (simp [cat, headC, hk.1, hk.2, length_zsum, length_hsum]; done) | (simp [cat, headC, hk.1, hk.2, length_zsum, length_hsum]; omega) | rfl)) rfl hS ?_
  refine q_does (d_call Try.func65 nm65 rfl rfl (pen_sum _ _ _ _ _ _ (S.hr [0, 1] rfl) (by first | with_reducible assumption | (rw [bv_length]; with_reducible assumption) | (rw [List.size_toArray, bv_length]; with_reducible assumption) | (simp [cat, headC, hk.1, hk.2, length_zsum, length_hsum]; done) | (simp [cat, headC, hk.1, hk.2, length_zsum, length_hsum]; omega) | rfl) (by first | omega | (simp only [List.length_append, List.length_cons, List.length_nil, bv_length, headC, hk.1, hk.2, length_zsum, length_hsum]; omega) | (simp [cat, headC, hk.1, hk.2, length_zsum, length_hsum]; omega)))) rfl ?_
  rintro _ w ⟨rfl, k7, c7, T⟩
  have S := (S.call [0, 1] T rfl).pk [0, 1, 4, 5] rfl
  have hS := S.pk [2, 3] rfl
  refine ⟨hS, ?_⟩
  refine q_does (d_call Try.func90 nm90 rfl rfl (pen_num _ _ _ _ _ _ (S.hr [0, 1] rfl) (by first | omega | (simp only [List.length_append, List.length_cons, List.length_nil, bv_length, headC, hk.1, hk.2, length_zsum, length_hsum]; omega) | (simp [cat, headC, hk.1, hk.2, length_zsum, length_hsum]; omega)))) rfl ?_
  rintro _ w ⟨rfl, k10, c10, T⟩
  have S := (S.call [0, 1] T rfl).pk [0, 1, 4, 5] rfl
  have hS := S.pk [2, 3] rfl
  refine ⟨hS, ?_⟩
  refine q_does (d_call Try.func65 nm65 rfl rfl (pen_sum _ _ _ _ _ _ (S.hr [0, 1] rfl) (by first | with_reducible assumption | (rw [bv_length]; with_reducible assumption) | (rw [List.size_toArray, bv_length]; with_reducible assumption) | (simp [cat, headC, hk.1, hk.2, length_zsum, length_hsum]; done) | (simp [cat, headC, hk.1, hk.2, length_zsum, length_hsum]; omega) | rfl) (by first | omega | (simp only [List.length_append, List.length_cons, List.length_nil, bv_length, headC, hk.1, hk.2, length_zsum, length_hsum]; omega) | (simp [cat, headC, hk.1, hk.2, length_zsum, length_hsum]; omega)))) rfl ?_
  rintro _ w ⟨rfl, k13, c13, T⟩
  have S := (S.call [0, 1] T rfl).pk [0, 1, 4, 5] rfl
  have hS := S.pk [2, 3] rfl
  refine ⟨hS, ?_⟩
  refine q_does (d_call Try.func90 nm90 rfl rfl (pen_num _ _ _ _ _ _ (S.hr [0, 1] rfl) (by first | omega | (simp only [List.length_append, List.length_cons, List.length_nil, bv_length, headC, hk.1, hk.2, length_zsum, length_hsum]; omega) | (simp [cat, headC, hk.1, hk.2, length_zsum, length_hsum]; omega)))) rfl ?_
  rintro _ w ⟨rfl, k16, c16, T⟩
  have S := (S.call [0, 1] T rfl).pk [0, 1, 4, 5] rfl
  have hS := S.pk [2, 3] rfl
  refine ⟨hS, ?_⟩
  refine q_does (d_call Try.func67 nm67 rfl rfl (pen_bytes _ _ _ _ _ (S.exact_ 0 rfl rfl) (S.rdRw 1 rfl rfl) (by first | omega | (simp only [List.length_append, List.length_cons, List.length_nil, bv_length, headC, hk.1, hk.2, length_zsum, length_hsum]; omega) | (simp [cat, headC, hk.1, hk.2, length_zsum, length_hsum]; omega)))) rfl ?_
  rintro _ w ⟨k17, c17, rfl, T⟩
  have S := S.merge T rfl
  have hS := S.pk [3, 4] rfl
  refine ⟨hS, ?_⟩
  refine q_nil ?_
  refine p_val (e_assign (v := .slice _ _ _) rfl) rfl ?_
  refine p_nil (x_then (s_seq (s_plain ?_)))
  refine p_val (e_move (v := .slice _ _ _) rfl) rfl ?_
  refine p_does (d_lit1 S Try.underlying90 sz33 zv33 rfl (vs := [.slice _ _ _]) rfl rfl rfl (by decide)) rfl ?_
  rintro _ w ⟨b19, rfl, S⟩
  refine p_does (d_call Try.func19 nm19 rfl rfl (Ret.mono (R' := fun v w' => v = .agg (bv (hsum h)).toArray ∧ Below _ _ w') (join_calls _ _ _ _ [[] ++ h.ahead ++ num h.height ++ h.root ++ num h.many] (Parts.one (S.rdRw 0 rfl rfl) (S.rdRw 1 rfl rfl)) (by simp [joinB, len4]; omega) (by simp)) (fun v w' ⟨hv, hB⟩ => ⟨by rw [hv]; unfold hsum; rfl, hB⟩))) rfl ?_
  rintro _ w ⟨rfl, hB⟩
  have S := S.below hB
  refine p_does (d_storeW S 4 rfl rfl (by first | exact bv_one _ | exact sv_one _ | exact iv_one _ | with_reducible assumption | (refine One.mem ?_; repeat (first | exact One.bv _ | exact One.sv _ | exact One.iv _ | exact One.nil | exact One.cat0 | refine One.cat1 ?_ ?_ | refine One.cons rfl ?_ | refine One.append ?_ ?_))) sz29 (by first | with_reducible assumption | (rw [bv_length]; with_reducible assumption) | (rw [List.size_toArray, bv_length]; with_reducible assumption) | (simp [cat, headC, hk.1, hk.2, length_zsum, length_hsum]; done) | (simp [cat, headC, hk.1, hk.2, length_zsum, length_hsum]; omega) | rfl) rfl rfl (by first | with_reducible assumption | (rw [bv_length]; with_reducible assumption) | (rw [List.size_toArray, bv_length]; with_reducible assumption) | (simp [cat, headC, hk.1, hk.2, length_zsum, length_hsum]; done) | (simp [cat, headC, hk.1, hk.2, length_zsum, length_hsum]; omega) | rfl)) rfl ?_
  intro _ w S
  refine p_nil (x_then (s_ret ?_))
  exact postC Try.results53 S 4 rfl rfl rfl ag29 sz29 (by first | with_reducible assumption | (rw [bv_length]; with_reducible assumption) | (rw [List.size_toArray, bv_length]; with_reducible assumption) | (simp [cat, headC, hk.1, hk.2, length_zsum, length_hsum]; done) | (simp [cat, headC, hk.1, hk.2, length_zsum, length_hsum]; omega) | rfl) (⟨rfl, S.to_below⟩)
theorem l19head (w0 : World) (h : HeadV) (hk : h.ok) :
    Ret Try.prog 54 [.agg (cat (headC h)).toArray] w0 fun v w' => v = .agg (bv (hsum h)).toArray ∧ Below w0.heap.size w0 w' := by
  refine enter Try.func54 rfl Try.ntmps54 (Nat.le_of_ble_eq_true rfl) ?_
  have S := St.init w0
  have hbl := headB_len hk
  have n1 := num_len h.height
  have n2 := num_len h.many
  have k1 := hk.1
  have k2 := hk.2
  refine s_seq (s_plain ?_)
  refine p_does (d_boxA S rfl) rfl ?_
  rintro _ w ⟨b1, rfl, S⟩
  refine p_does (d_allocA S zvS) rfl ?_
  rintro _ w ⟨b2, rfl, S⟩
  refine p_nil (x_then (s_seq (s_plain ?_)))
  refine p_does (d_allocA S zs98) rfl ?_
  rintro _ w ⟨b3, rfl, S⟩
  have S := pen_new S
  refine p_nil (x_then (s_seq ?_))
  refine s_drawK (ks := [some b2, some b1]) (ps := [Ex _ _, Ex _ _]) (S.pk [2, 3] rfl) [(true, 0), (true, 1), (true, 3), (true, 4), (true, 6), (true, 7), (true, 9), (true, 10), (false, 2), (false, 5), (false, 8), (false, 11), (false, 12), (false, 13), (false, 14)] [15] [15] mixed (by kernel_rfl) (by repeat (first | exact Calm.post _ _ _ | refine Calm.then ?_ _ | refine Calm.inB ?_ _)) (fun hS => ?_)
  have S := S.drew
  refine q_val (fun w hS => e_field rfl Try.underlying66 rfl sz29 (by decide)) rfl hS ?_
  refine q_val (fun w hS => e_loadFA (i := 0) (off := 0) rfl ag29 sz29 (by decide) hS (j := 1) rfl rfl rfl (by first | with_reducible assumption | (rw [bv_length]; with_reducible assumption) | (rw [List.size_toArray, bv_length]; with_reducible assumption) | (simp [cat, headC, hk.1, hk.2, length_zsum, length_hsum]; done) | (simp [cat, headC, hk.1, hk.2, length_zsum, length_hsum]; omega) | rfl) (by first | with_reducible assumption | (rw [bv_length]; with_reducible assumption) | (rw [List.size_toArray, bv_length]; with_reducible assumption) | (simp [cat, headC, hk.1, hk.2, length_zsum, length_hsum]; done) | (simp [cat, headC, hk.1, hk.2, length_zsum, length_hsum]; omega) | rfl)) rfl hS ?_
  refine q_val (fun w hS => e_field rfl Try.underlying66 rfl sz3 (by decide)) rfl hS ?_
  refine q_val (fun w hS => e_loadF1 (i := 1) (off := 32) rfl ag3 hS (j := 1) rfl rfl rfl (by first | with_reducible assumption | (rw [bv_length]; with_reducible assumption) | (rw [List.size_toArray, bv_length]; with_reducible assumption) | (simp [cat, headC, hk.1, hk.2, length_zsum, length_hsum]; done) | (simp [cat, headC, hk.1, hk.2, length_zsum, length_hsum]; omega) | rfl)) rfl hS ?_
  refine q_val (fun w hS => e_field rfl Try.underlying66 rfl sz29 (by decide)) rfl hS ?_
  refine q_val (fun w hS => e_loadFA (i := 2) (off := 33) rfl ag29 sz29 (by decide) hS (j := 1) rfl rfl rfl (by first | with_reducible assumption | (rw [bv_length]; with_reducible assumption) | (rw [List.size_toArray, bv_length]; with_reducible assumption) | (simp [cat, headC, hk.1, hk.2, length_zsum, length_hsum]; done) | (simp [cat, headC, hk.1, hk.2, length_zsum, length_hsum]; omega) | rfl) (by first | with_reducible assumption | (rw [bv_length]; with_reducible assumption) | (rw [List.size_toArray, bv_length]; with_reducible assumption) | (simp [cat, headC, hk.1, hk.2, length_zsum, length_hsum]; done) | (simp [cat, headC, hk.1, hk.2, length_zsum, length_hsum]; omega) | rfl)) rfl hS ?_
  refine q_val (fun w hS => e_field rfl Try.underlying66 rfl sz3 (by decide)) rfl hS ?_
  refine q_val (fun w hS => e_loadF1 (i := 3) (off := 65) rfl ag3 hS (j := 1) rfl rfl rfl (by first | with_reducible assumption | (rw [bv_length]; with_reducible assumption) | (rw [List.size_toArray, bv_length]; with_reducible assumption) | (simp [cat, headC, hk.1, hk.2, length_zsum, length_hsum]; done) | (simp [cat, headC, hk.1, hk.2, length_zsum, length_hsum]; omega) | rfl)) rfl hS ?_
  refine q_does (d_call Try.func65 nm65 rfl rfl (pen_sum _ _ _ _ _ _ (S.hr [0, 1] rfl) (by first | with_reducible assumption | (rw [bv_length]; with_reducible assumption) | (rw [List.size_toArray, bv_length]; with_reducible assumption) | (simp [cat, headC, hk.1, hk.2, length_zsum, length_hsum]; done) | (simp [cat, headC, hk.1, hk.2, length_zsum, length_hsum]; omega) | rfl) (by first | omega | (simp only [List.length_append, List.length_cons, List.length_nil, bv_length, headC, hk.1, hk.2, length_zsum, length_hsum]; omega) | (simp [cat, headC, hk.1, hk.2, length_zsum, length_hsum]; omega)))) rfl ?_
  rintro _ w ⟨rfl, k6, c6, T⟩
  have S := (S.call [0, 1] T rfl).pk [0, 1, 4, 5] rfl
  have hS := S.pk [2, 3] rfl
  refine ⟨hS, ?_⟩
  refine q_does (d_call Try.func90 nm90 rfl rfl (pen_num _ _ _ _ _ _ (S.hr [0, 1] rfl) (by first | omega | (simp only [List.length_append, List.length_cons, List.length_nil, bv_length, headC, hk.1, hk.2, length_zsum, length_hsum]; omega) | (simp [cat, headC, hk.1, hk.2, length_zsum, length_hsum]; omega)))) rfl ?_
  rintro _ w ⟨rfl, k9, c9, T⟩
  have S := (S.call [0, 1] T rfl).pk [0, 1, 4, 5] rfl
  have hS := S.pk [2, 3] rfl
  refine ⟨hS, ?_⟩
  refine q_does (d_call Try.func65 nm65 rfl rfl (pen_sum _ _ _ _ _ _ (S.hr [0, 1] rfl) (by first | with_reducible assumption | (rw [bv_length]; with_reducible assumption) | (rw [List.size_toArray, bv_length]; with_reducible assumption) | (simp [cat, headC, hk.1, hk.2, length_zsum, length_hsum]; done) | (simp [cat, headC, hk.1, hk.2, length_zsum, length_hsum]; omega) | rfl) (by first | omega | (simp only [List.length_append, List.length_cons, List.length_nil, bv_length, headC, hk.1, hk.2, length_zsum, length_hsum]; omega) | (simp [cat, headC, hk.1, hk.2, length_zsum, length_hsum]; omega)))) rfl ?_
  rintro _ w ⟨rfl, k12, c12, T⟩
  have S := (S.call [0, 1] T rfl).pk [0, 1, 4, 5] rfl
  have hS := S.pk [2, 3] rfl
  refine ⟨hS, ?_⟩
  refine q_does (d_call Try.func90 nm90 rfl rfl (pen_num _ _ _ _ _ _ (S.hr [0, 1] rfl) (by first | omega | (simp only [List.length_append, List.length_cons, List.length_nil, bv_length, headC, hk.1, hk.2, length_zsum, length_hsum]; omega) | (simp [cat, headC, hk.1, hk.2, length_zsum, length_hsum]; omega)))) rfl ?_
  rintro _ w ⟨rfl, k15, c15, T⟩
  have S := (S.call [0, 1] T rfl).pk [0, 1, 4, 5] rfl
  have hS := S.pk [2, 3] rfl
  refine ⟨hS, ?_⟩
  refine q_does (d_call Try.func67 nm67 rfl rfl (pen_bytes _ _ _ _ _ (S.exact_ 0 rfl rfl) (S.rdRw 1 rfl rfl) (by first | omega | (simp only [List.length_append, List.length_cons, List.length_nil, bv_length, headC, hk.1, hk.2, length_zsum, length_hsum]; omega) | (simp [cat, headC, hk.1, hk.2, length_zsum, length_hsum]; omega)))) rfl ?_
  rintro _ w ⟨k16, c16, rfl, T⟩
  have S := S.merge T rfl
  have hS := S.pk [3, 4] rfl
  refine ⟨hS, ?_⟩
  refine q_does (d_lit1 S Try.underlying90 sz33 zv33 rfl (vs := [.slice _ _ _]) rfl rfl rfl (by decide)) rfl ?_
  rintro _ w ⟨b17, rfl, S⟩
  have hS := S.pk [4, 5] rfl
  refine ⟨hS, ?_⟩
  refine q_does (d_call Try.func19 nm19 rfl rfl (Ret.mono (R' := fun v w' => v = .agg (bv (hsum h)).toArray ∧ Below _ _ w') (join_calls _ _ _ _ [[] ++ h.ahead ++ num h.height ++ h.root ++ num h.many] (Parts.one (S.rdRw 0 rfl rfl) (S.rdRw 1 rfl rfl)) (by simp [joinB, len4]; omega) (by simp)) (fun v w' ⟨hv, hB⟩ => ⟨by rw [hv]; unfold hsum; rfl, hB⟩))) rfl ?_
  rintro _ w ⟨rfl, hB⟩
  have S := S.below hB
  have hS := S.pk [4, 5] rfl
  refine ⟨hS, ?_⟩
  refine q_nil ?_
  refine p_does (d_storeW S 4 rfl rfl (by first | exact bv_one _ | exact sv_one _ | exact iv_one _ | with_reducible assumption | (refine One.mem ?_; repeat (first | exact One.bv _ | exact One.sv _ | exact One.iv _ | exact One.nil | exact One.cat0 | refine One.cat1 ?_ ?_ | refine One.cons rfl ?_ | refine One.append ?_ ?_))) sz29 (by first | with_reducible assumption | (rw [bv_length]; with_reducible assumption) | (rw [List.size_toArray, bv_length]; with_reducible assumption) | (simp [cat, headC, hk.1, hk.2, length_zsum, length_hsum]; done) | (simp [cat, headC, hk.1, hk.2, length_zsum, length_hsum]; omega) | rfl) rfl rfl (by first | with_reducible assumption | (rw [bv_length]; with_reducible assumption) | (rw [List.size_toArray, bv_length]; with_reducible assumption) | (simp [cat, headC, hk.1, hk.2, length_zsum, length_hsum]; done) | (simp [cat, headC, hk.1, hk.2, length_zsum, length_hsum]; omega) | rfl)) rfl ?_
  intro _ w S
  refine p_nil (x_then (s_ret ?_))
  exact postC Try.results54 S 4 rfl rfl rfl ag29 sz29 (by first | with_reducible assumption | (rw [bv_length]; with_reducible assumption) | (rw [List.size_toArray, bv_length]; with_reducible assumption) | (simp [cat, headC, hk.1, hk.2, length_zsum, length_hsum]; done) | (simp [cat, headC, hk.1, hk.2, length_zsum, length_hsum]; omega) | rfl) (⟨rfl, S.to_below⟩)
end Go.Proofs.Ytdhfiamgmokfbaa

/- Blocks made, judged and shown, walked. It proves no statement by itself. -/
set_option linter.unusedSimpArgs false
set_option linter.unusedVariables false
set_option maxRecDepth 100000
set_option maxHeartbeats 1000000
namespace Go.Proofs.Ytdhfiamgmokfbaa
open Go Go.RowKit E
attribute [local irreducible] wpList seqH treeH
theorem one_txV (x : TxV) : One (txV x) := by
  intro v hv; simp [txV, txC, cat] at hv; rcases hv with rfl | rfl | rfl | rfl | rfl | rfl | hv | rfl | rfl; rfl; rfl; rfl; rfl; rfl; rfl; exact bv_one _ _ hv; rfl; rfl
theorem txs_one (l : List TxV) : One (l.flatMap txV) := by
  intro v hv
  obtain ⟨x, _, hx⟩ := List.mem_flatMap.1 hv
  exact one_txV x v hx
theorem bh_has (w0 : World) (h : HeadV) (hk : h.ok) (s : List Nat) (a : Int) (A : Option Addr) (c : Nat) (P : List (List Nat)) (hs : s.length = 32) (R : Rd w0 32 A P.length (sv P)) (hP : All32 P) (cR : P.length ≤ c) :
    Ret Try.prog 56 [.agg (cat (headC h)).toArray, .agg (bv s).toArray, .int .i64 a, .slice A P.length c] w0 fun v w' => v = .bool (decide (mcheck h.root s a h.many P)) ∧ Below w0.heap.size w0 w' := by
  refine enter Try.func56 rfl Try.ntmps56 (Nat.le_of_ble_eq_true rfl) ?_
  have S := St.init w0
  have k1 := hk.1
  have k2 := hk.2
  refine s_seq (s_plain ?_)
  refine p_does (d_boxA S rfl) rfl ?_
  rintro _ w ⟨b4, rfl, S⟩
  refine p_does (d_boxA S rfl) rfl ?_
  rintro _ w ⟨b5, rfl, S⟩
  refine p_val (e_assign (v := .bool _) rfl) rfl ?_
  refine p_nil (x_then (s_seq (s_plain ?_)))
  refine p_val (e_field rfl Try.underlying66 rfl sz29 (by decide)) rfl ?_
  refine p_val (e_loadFA (i := 2) (off := 33) rfl ag29 sz29 (by decide) S (j := 1) rfl rfl rfl (by first | with_reducible assumption | (rw [bv_length]; with_reducible assumption) | (rw [List.size_toArray, bv_length]; with_reducible assumption) | (simp [cat, headC, hk.1, hk.2, hs]; done) | (simp [cat, headC, hk.1, hk.2, hs]; omega) | rfl) (by first | with_reducible assumption | (rw [bv_length]; with_reducible assumption) | (rw [List.size_toArray, bv_length]; with_reducible assumption) | (simp [cat, headC, hk.1, hk.2, hs]; done) | (simp [cat, headC, hk.1, hk.2, hs]; omega) | rfl)) rfl ?_
  refine p_val (e_loadW 0 rfl ag29 sz29 S rfl rfl (by first | with_reducible assumption | (rw [bv_length]; with_reducible assumption) | (rw [List.size_toArray, bv_length]; with_reducible assumption) | (simp [cat, headC, hk.1, hk.2, hs]; done) | (simp [cat, headC, hk.1, hk.2, hs]; omega) | rfl)) rfl ?_
  refine p_val (e_move (v := .int _ _) rfl) rfl ?_
  refine p_val (e_field rfl Try.underlying66 rfl sz3 (by decide)) rfl ?_
  refine p_val (e_loadF1 (i := 3) (off := 65) rfl ag3 S (j := 1) rfl rfl rfl (by first | with_reducible assumption | (rw [bv_length]; with_reducible assumption) | (rw [List.size_toArray, bv_length]; with_reducible assumption) | (simp [cat, headC, hk.1, hk.2, hs]; done) | (simp [cat, headC, hk.1, hk.2, hs]; omega) | rfl)) rfl ?_
  refine p_val (e_move (v := .slice _ _ _) rfl) rfl ?_
  refine p_does (d_call Try.func38 nm38 rfl rfl (mk_check _ h.root s a h.many _ _ P hk.2 hs (S.rdOld R rfl) hP cR)) rfl ?_
  rintro _ w ⟨rfl, hB⟩
  have S := S.below hB
  refine p_val (e_assign (v := .bool _) rfl) rfl ?_
  refine p_nil (x_then (s_ret ?_))
  exact post1 (v := .bool _) Try.results56 rfl (⟨rfl, S.to_below⟩)
theorem bb_path (w0 : World) (h : HeadV) (hk : h.ok) (L : Sl TxV) (hL : TxsOk w0 [] L) (hn : L.n ≤ 1000) (hs : ∀ x ∈ L.xs, TxSm x) (a : Int) :
    Ret Try.prog 55 [.agg (cat (blkC h L.A L.n L.c)).toArray, .int .i64 a] w0 fun v w' => ∃ k c2, v = .tuple #[.slice (at_ k) (mpath (L.xs.map txsum) a).length c2, .bool (decide (0 ≤ a ∧ a < (L.n : Int)))] ∧ St w0 w' [] [k] [Rw 29 32 (mpath (L.xs.map txsum) a).length c2 (sv (mpath (L.xs.map txsum) a))] := by
  refine enter Try.func55 rfl Try.ntmps55 (Nat.le_of_ble_eq_true rfl) ?_
  have S := St.init w0
  have k1 := hk.1
  have k2 := hk.2
  have hal := txsums_all L.xs
  have hln : (L.xs.map txsum).length = L.n := by rw [List.length_map]; exact hL.1
  refine s_seq (s_plain ?_)
  refine p_does (d_boxA S rfl) rfl ?_
  rintro _ w ⟨b2, rfl, S⟩
  refine p_val (e_assign (v := .slice _ _ _) rfl) rfl ?_
  refine p_val (e_assign (v := .bool _) rfl) rfl ?_
  refine p_nil (x_then (s_seq (s_plain ?_)))
  refine p_val (e_move (v := .int _ _) rfl) rfl ?_
  refine p_val (e_field rfl Try.underlying69 rfl sz67 (by decide)) rfl ?_
  refine p_val (e_loadF1 (i := 4) (off := 66) rfl ag67 S (j := 0) rfl rfl rfl (by first | with_reducible assumption | (rw [bv_length]; with_reducible assumption) | (rw [List.size_toArray, bv_length]; with_reducible assumption) | (simp [cat, blkC, hk.1, hk.2]; done) | (simp [cat, blkC, hk.1, hk.2]; omega) | rfl)) rfl ?_
  refine p_does (d_call Try.func89 nm89 rfl rfl (bk_sums _ L (hL.carry (S.carry0)) hn hs)) rfl ?_
  rintro _ w ⟨k9, c9, rfl, T⟩
  have S := S.merge T rfl
  refine p_does (d_call Try.func41 nm41 rfl rfl (mk_path _ a _ _ (L.xs.map txsum) (S.rdRw 0 rfl rfl) hal (by omega))) rfl ?_
  rintro _ w ⟨k10, c10, rfl, T⟩
  have S := S.merge T rfl
  refine p_val (e_extract rfl rfl) rfl ?_
  refine p_val (e_extract rfl rfl) rfl ?_
  refine p_val (e_assign (v := .slice _ _ _) rfl) rfl ?_
  refine p_val (e_assign (v := .bool _) rfl) rfl ?_
  refine p_nil (x_then (s_ret ?_))
  exact post2 (v := .slice _ _ _) (x := .bool _) Try.results55 rfl rfl (⟨k10, c10, by rw [hln], S.pk [0] rfl⟩)
theorem bb_right (w0 : World) (h : HeadV) (hk : h.ok) (L : Sl TxV) (hL : TxsOk w0 [] L) (hn : L.n ≤ 1000) (hs : ∀ x ∈ L.xs, TxSm x) :
    Ret Try.prog 51 [.agg (cat (blkC h L.A L.n L.c)).toArray] w0 fun v w' => v = .bool (decide (bright h L)) ∧ Below w0.heap.size w0 w' := by
  refine enter Try.func51 rfl Try.ntmps51 (Nat.le_of_ble_eq_true rfl) ?_
  have S := St.init w0
  have k1 := hk.1
  have k2 := hk.2
  have hal := txsums_all L.xs
  have hln : (L.xs.map txsum).length = L.n := by rw [List.length_map]; exact hL.1
  refine s_seq (s_plain ?_)
  refine p_does (d_boxA S rfl) rfl ?_
  rintro _ w ⟨b1, rfl, S⟩
  refine p_val (e_assign (v := .bool _) rfl) rfl ?_
  refine p_nil (x_then (s_seq ?_))
  refine s_cutK (ks := [some b1]) (ps := [Ex _ _]) [] trivial S (fun keep ks ps f' w' => ∃ u bb, f' = upds u ((2, .bool bb) :: keep) ∧ (bb = true ↔ (bright h L)) ∧ St w0 w' [] ks ps) ?_ ?_
  · refine s_drawK (ks := [some b1]) (ps := [Ex _ _]) S [(true, 0), (true, 1), (true, 2), (true, 3), (true, 4), (true, 5), (true, 6), (true, 7), (true, 8), (true, 9), (true, 10), (true, 11), (true, 12), (true, 13), (true, 14), (true, 15), (true, 16), (true, 17), (true, 18), (true, 19), (true, 20), (true, 21), (true, 22), (true, 23), (true, 24), (true, 25), (true, 26), (true, 27), (true, 28), (true, 29), (true, 30), (false, 31), (false, 32), (true, 33), (true, 34)] [35] [35] mixed (by kernel_rfl) (by repeat (first | exact Calm.post _ _ _ | refine Calm.then ?_ _ | refine Calm.inB ?_ _)) (fun hS => ?_)
    have S := S.drew
    refine q_val (fun w hS => e_field rfl Try.underlying69 rfl sz66 (by decide)) rfl hS ?_
    refine q_val (fun w hS => e_field rfl Try.underlying66 rfl sz3 (by decide)) rfl hS ?_
    refine q_val (fun w hS => e_loadF1 (i := 3) (off := 65) rfl ag3 hS (j := 0) rfl rfl rfl (by first | with_reducible assumption | (rw [bv_length]; with_reducible assumption) | (rw [List.size_toArray, bv_length]; with_reducible assumption) | (simp [cat, blkC, hk.1, hk.2, length_mroot]; done) | (simp [cat, blkC, hk.1, hk.2, length_mroot]; omega) | rfl)) rfl hS ?_
    refine q_val (fun w hS => e_field rfl Try.underlying69 rfl sz67 (by decide)) rfl hS ?_
    refine q_val (fun w hS => e_loadF1 (i := 4) (off := 66) rfl ag67 hS (j := 0) rfl rfl rfl (by first | with_reducible assumption | (rw [bv_length]; with_reducible assumption) | (rw [List.size_toArray, bv_length]; with_reducible assumption) | (simp [cat, blkC, hk.1, hk.2, length_mroot]; done) | (simp [cat, blkC, hk.1, hk.2, length_mroot]; omega) | rfl)) rfl hS ?_
    refine q_val (fun w hS => e_len rfl Try.underlying67) rfl hS ?_
    refine q_valB (fun w hS => e_eql rfl rfl) rfl hS (fun hg9 => ?_) (fun hg9 => ?_)
    · refine q_val (fun w hS => e_move (v := .bool _) rfl) rfl hS ?_
      refine qg_val rfl rfl rfl rfl rfl (fun w hS => e_field rfl Try.underlying69 rfl sz66 (by decide)) hS ?_
      refine qg_val rfl rfl rfl rfl rfl (fun w hS => e_field rfl Try.underlying66 rfl sz3 (by decide)) hS ?_
      refine qg_val rfl rfl rfl rfl rfl (fun w hS => e_loadF1 (i := 3) (off := 65) rfl ag3 hS (j := 0) rfl rfl rfl (by first | with_reducible assumption | (rw [bv_length]; with_reducible assumption) | (rw [List.size_toArray, bv_length]; with_reducible assumption) | (simp [cat, blkC, hk.1, hk.2, length_mroot]; done) | (simp [cat, blkC, hk.1, hk.2, length_mroot]; omega) | rfl)) hS ?_
      refine qg_valB rfl rfl rfl rfl rfl (fun w hS => e_leq rfl rfl) hS (fun hg14 => ?_) (fun hg14 => ?_)
      · refine q_val (fun w hS => e_pick_t rfl rfl) rfl hS ?_
        refine q_val (fun w hS => e_move (v := .bool _) rfl) rfl hS ?_
        refine qg_val rfl rfl rfl rfl rfl (fun w hS => e_field rfl Try.underlying69 rfl sz66 (by decide)) hS ?_
        refine qg_val rfl rfl rfl rfl rfl (fun w hS => e_field rfl Try.underlying66 rfl sz3 (by decide)) hS ?_
        refine qg_val rfl rfl rfl rfl rfl (fun w hS => e_loadF1 (i := 1) (off := 32) rfl ag3 hS (j := 0) rfl rfl rfl (by first | with_reducible assumption | (rw [bv_length]; with_reducible assumption) | (rw [List.size_toArray, bv_length]; with_reducible assumption) | (simp [cat, blkC, hk.1, hk.2, length_mroot]; done) | (simp [cat, blkC, hk.1, hk.2, length_mroot]; omega) | rfl)) hS ?_
        refine qg_valB rfl rfl rfl rfl rfl (fun w hS => e_geq rfl rfl) hS (fun hg20 => ?_) (fun hg20 => ?_)
        · refine q_val (fun w hS => e_pick_t rfl rfl) rfl hS ?_
          refine q_val (fun w hS => e_move (v := .bool _) rfl) rfl hS ?_
          refine qg_val rfl rfl rfl rfl rfl (fun w hS => e_field rfl Try.underlying69 rfl sz66 (by decide)) hS ?_
          refine qg_val rfl rfl rfl rfl rfl (fun w hS => e_field rfl Try.underlying66 rfl sz3 (by decide)) hS ?_
          refine qg_val rfl rfl rfl rfl rfl (fun w hS => e_loadF1 (i := 1) (off := 32) rfl ag3 hS (j := 0) rfl rfl rfl (by first | with_reducible assumption | (rw [bv_length]; with_reducible assumption) | (rw [List.size_toArray, bv_length]; with_reducible assumption) | (simp [cat, blkC, hk.1, hk.2, length_mroot]; done) | (simp [cat, blkC, hk.1, hk.2, length_mroot]; omega) | rfl)) hS ?_
          refine qg_valB rfl rfl rfl rfl rfl (fun w hS => e_leq rfl rfl) hS (fun hg26 => ?_) (fun hg26 => ?_)
          · refine q_val (fun w hS => e_pick_t rfl rfl) rfl hS ?_
            refine q_val (fun w hS => e_move (v := .bool _) rfl) rfl hS ?_
            refine qg_val rfl rfl rfl rfl rfl (fun w hS => e_field rfl Try.underlying69 rfl sz66 (by decide)) hS ?_
            refine qg_val rfl rfl rfl rfl rfl (fun w hS => e_field rfl Try.underlying66 rfl sz29 (by decide)) hS ?_
            refine qg_val rfl rfl rfl rfl rfl (fun w hS => e_loadFA (i := 2) (off := 33) rfl ag29 sz29 (by decide) hS (j := 0) rfl rfl rfl (by first | with_reducible assumption | (rw [bv_length]; with_reducible assumption) | (rw [List.size_toArray, bv_length]; with_reducible assumption) | (simp [cat, blkC, hk.1, hk.2, length_mroot]; done) | (simp [cat, blkC, hk.1, hk.2, length_mroot]; omega) | rfl) (by first | with_reducible assumption | (rw [bv_length]; with_reducible assumption) | (rw [List.size_toArray, bv_length]; with_reducible assumption) | (simp [cat, blkC, hk.1, hk.2, length_mroot]; done) | (simp [cat, blkC, hk.1, hk.2, length_mroot]; omega) | rfl)) hS ?_
            refine qg_val rfl rfl rfl rfl rfl (fun w hS => e_field rfl Try.underlying69 rfl sz67 (by decide)) hS ?_
            refine qg_val rfl rfl rfl rfl rfl (fun w hS => e_loadF1 (i := 4) (off := 66) rfl ag67 hS (j := 0) rfl rfl rfl (by first | with_reducible assumption | (rw [bv_length]; with_reducible assumption) | (rw [List.size_toArray, bv_length]; with_reducible assumption) | (simp [cat, blkC, hk.1, hk.2, length_mroot]; done) | (simp [cat, blkC, hk.1, hk.2, length_mroot]; omega) | rfl)) hS ?_
            refine qg_does rfl rfl rfl rfl rfl (d_call Try.func89 nm89 rfl rfl (bk_sums _ L (hL.carry (S.carry0)) hn hs)) ?_
            rintro _ w ⟨k34, c34, rfl, T⟩
            have S := S.merge T rfl
            have hS := S.pk [1] rfl
            refine ⟨hS, ?_⟩
            refine qg_does rfl rfl rfl rfl rfl (d_call Try.func42 nm42 rfl rfl (mk_root _ _ _ (L.xs.map txsum) (S.rdRw 0 rfl rfl) hal (by omega))) ?_
            rintro _ w ⟨rfl, hB⟩
            have S := S.below hB
            have hS := S.pk [1] rfl
            refine ⟨hS, ?_⟩
            refine qg_val rfl rfl rfl rfl rfl (fun w hS => EqT.sum eq29 gd29 rfl rfl (by first | with_reducible assumption | (rw [bv_length]; with_reducible assumption) | (rw [List.size_toArray, bv_length]; with_reducible assumption) | (simp [cat, blkC, hk.1, hk.2, length_mroot]; done) | (simp [cat, blkC, hk.1, hk.2, length_mroot]; omega) | rfl) (by first | with_reducible assumption | (rw [bv_length]; with_reducible assumption) | (rw [List.size_toArray, bv_length]; with_reducible assumption) | (simp [cat, blkC, hk.1, hk.2, length_mroot]; done) | (simp [cat, blkC, hk.1, hk.2, length_mroot]; omega) | rfl)) hS ?_
            refine q_val (fun w hS => e_pick_t rfl rfl) rfl hS ?_
            refine q_nil ?_
            refine p_val (e_assign (v := .bool _) rfl) rfl ?_
            exact p_nil (x_then ⟨_, rfl, _, _, upds_eq ⟨rfl, trivial⟩, by simp; unfold bright; first | exact ⟨fun h => ⟨by omega, by omega, by omega, by omega, h⟩, fun h => h.2.2.2.2⟩ | exact (fun h => by have := h.1; have := h.2.1; have := h.2.2.1; have := h.2.2.2.1; omega), S.pk [1] rfl⟩)
          · refine q_val (fun w hS => e_pick_t rfl rfl) rfl hS ?_
            refine q_val (fun w hS => e_move (v := .bool _) rfl) rfl hS ?_
            refine q_no rfl rfl rfl rfl rfl hS ?_
            refine q_no rfl rfl rfl rfl rfl hS ?_
            refine q_no rfl rfl rfl rfl rfl hS ?_
            refine q_no rfl rfl rfl rfl rfl hS ?_
            refine q_no rfl rfl rfl rfl rfl hS ?_
            refine q_no rfl rfl rfl rfl rfl hS ?_
            refine q_no rfl rfl rfl rfl rfl hS ?_
            refine q_no rfl rfl rfl rfl rfl hS ?_
            refine q_val (fun w hS => e_pick_f rfl rfl) rfl hS ?_
            refine q_nil ?_
            refine p_val (e_assign (v := .bool _) rfl) rfl ?_
            exact p_nil (x_then ⟨_, rfl, _, _, upds_eq ⟨rfl, trivial⟩, by simp; unfold bright; first | exact ⟨fun h => ⟨by omega, by omega, by omega, by omega, h⟩, fun h => h.2.2.2.2⟩ | exact (fun h => by have := h.1; have := h.2.1; have := h.2.2.1; have := h.2.2.2.1; omega), S⟩)
        · refine q_val (fun w hS => e_pick_t rfl rfl) rfl hS ?_
          refine q_val (fun w hS => e_move (v := .bool _) rfl) rfl hS ?_
          refine q_no rfl rfl rfl rfl rfl hS ?_
          refine q_no rfl rfl rfl rfl rfl hS ?_
          refine q_no rfl rfl rfl rfl rfl hS ?_
          refine q_no rfl rfl rfl rfl rfl hS ?_
          refine q_val (fun w hS => e_pick_f rfl rfl) rfl hS ?_
          refine q_val (fun w hS => e_move (v := .bool _) rfl) rfl hS ?_
          refine q_no rfl rfl rfl rfl rfl hS ?_
          refine q_no rfl rfl rfl rfl rfl hS ?_
          refine q_no rfl rfl rfl rfl rfl hS ?_
          refine q_no rfl rfl rfl rfl rfl hS ?_
          refine q_no rfl rfl rfl rfl rfl hS ?_
          refine q_no rfl rfl rfl rfl rfl hS ?_
          refine q_no rfl rfl rfl rfl rfl hS ?_
          refine q_no rfl rfl rfl rfl rfl hS ?_
          refine q_val (fun w hS => e_pick_f rfl rfl) rfl hS ?_
          refine q_nil ?_
          refine p_val (e_assign (v := .bool _) rfl) rfl ?_
          exact p_nil (x_then ⟨_, rfl, _, _, upds_eq ⟨rfl, trivial⟩, by simp; unfold bright; first | exact ⟨fun h => ⟨by omega, by omega, by omega, by omega, h⟩, fun h => h.2.2.2.2⟩ | exact (fun h => by have := h.1; have := h.2.1; have := h.2.2.1; have := h.2.2.2.1; omega), S⟩)
      · refine q_val (fun w hS => e_pick_t rfl rfl) rfl hS ?_
        refine q_val (fun w hS => e_move (v := .bool _) rfl) rfl hS ?_
        refine q_no rfl rfl rfl rfl rfl hS ?_
        refine q_no rfl rfl rfl rfl rfl hS ?_
        refine q_no rfl rfl rfl rfl rfl hS ?_
        refine q_no rfl rfl rfl rfl rfl hS ?_
        refine q_val (fun w hS => e_pick_f rfl rfl) rfl hS ?_
        refine q_val (fun w hS => e_move (v := .bool _) rfl) rfl hS ?_
        refine q_no rfl rfl rfl rfl rfl hS ?_
        refine q_no rfl rfl rfl rfl rfl hS ?_
        refine q_no rfl rfl rfl rfl rfl hS ?_
        refine q_no rfl rfl rfl rfl rfl hS ?_
        refine q_val (fun w hS => e_pick_f rfl rfl) rfl hS ?_
        refine q_val (fun w hS => e_move (v := .bool _) rfl) rfl hS ?_
        refine q_no rfl rfl rfl rfl rfl hS ?_
        refine q_no rfl rfl rfl rfl rfl hS ?_
        refine q_no rfl rfl rfl rfl rfl hS ?_
        refine q_no rfl rfl rfl rfl rfl hS ?_
        refine q_no rfl rfl rfl rfl rfl hS ?_
        refine q_no rfl rfl rfl rfl rfl hS ?_
        refine q_no rfl rfl rfl rfl rfl hS ?_
        refine q_no rfl rfl rfl rfl rfl hS ?_
        refine q_val (fun w hS => e_pick_f rfl rfl) rfl hS ?_
        refine q_nil ?_
        refine p_val (e_assign (v := .bool _) rfl) rfl ?_
        exact p_nil (x_then ⟨_, rfl, _, _, upds_eq ⟨rfl, trivial⟩, by simp; unfold bright; first | exact ⟨fun h => ⟨by omega, by omega, by omega, by omega, h⟩, fun h => h.2.2.2.2⟩ | exact (fun h => by have := h.1; have := h.2.1; have := h.2.2.1; have := h.2.2.2.1; omega), S⟩)
    · refine q_val (fun w hS => e_move (v := .bool _) rfl) rfl hS ?_
      refine q_no rfl rfl rfl rfl rfl hS ?_
      refine q_no rfl rfl rfl rfl rfl hS ?_
      refine q_no rfl rfl rfl rfl rfl hS ?_
      refine q_no rfl rfl rfl rfl rfl hS ?_
      refine q_val (fun w hS => e_pick_f rfl rfl) rfl hS ?_
      refine q_val (fun w hS => e_move (v := .bool _) rfl) rfl hS ?_
      refine q_no rfl rfl rfl rfl rfl hS ?_
      refine q_no rfl rfl rfl rfl rfl hS ?_
      refine q_no rfl rfl rfl rfl rfl hS ?_
      refine q_no rfl rfl rfl rfl rfl hS ?_
      refine q_val (fun w hS => e_pick_f rfl rfl) rfl hS ?_
      refine q_val (fun w hS => e_move (v := .bool _) rfl) rfl hS ?_
      refine q_no rfl rfl rfl rfl rfl hS ?_
      refine q_no rfl rfl rfl rfl rfl hS ?_
      refine q_no rfl rfl rfl rfl rfl hS ?_
      refine q_no rfl rfl rfl rfl rfl hS ?_
      refine q_val (fun w hS => e_pick_f rfl rfl) rfl hS ?_
      refine q_val (fun w hS => e_move (v := .bool _) rfl) rfl hS ?_
      refine q_no rfl rfl rfl rfl rfl hS ?_
      refine q_no rfl rfl rfl rfl rfl hS ?_
      refine q_no rfl rfl rfl rfl rfl hS ?_
      refine q_no rfl rfl rfl rfl rfl hS ?_
      refine q_no rfl rfl rfl rfl rfl hS ?_
      refine q_no rfl rfl rfl rfl rfl hS ?_
      refine q_no rfl rfl rfl rfl rfl hS ?_
      refine q_no rfl rfl rfl rfl rfl hS ?_
      refine q_val (fun w hS => e_pick_f rfl rfl) rfl hS ?_
      refine q_nil ?_
      refine p_val (e_assign (v := .bool _) rfl) rfl ?_
      exact p_nil (x_then ⟨_, rfl, _, _, upds_eq ⟨rfl, trivial⟩, by simp; unfold bright; first | exact ⟨fun h => ⟨by omega, by omega, by omega, by omega, h⟩, fun h => h.2.2.2.2⟩ | exact (fun h => by have := h.1; have := h.2.1; have := h.2.2.1; have := h.2.2.2.1; omega), S⟩)
  · rintro f w ⟨u, b2, rfl, hb2, S⟩
    refine x_then (s_ret ?_)
    exact post1 (v := .bool _) Try.results51 rfl (⟨by rw [show b2 = decide (bright h L) from by rw [Bool.eq_iff_iff]; simpa using hb2], S.to_below⟩)
theorem bk_make (w0 : World) (h : HeadV) (hk : h.ok) (L : Sl TxV) (hL : TxsOk w0 [] L) (hn : L.n ≤ 1000) (hs : ∀ x ∈ L.xs, TxSm x) :
    Ret Try.prog 52 [.agg (cat (headC h)).toArray, .slice L.A L.n L.c] w0 fun v w' => ∃ k c, v = .tuple #[.agg (cat (blkC (mkH h L) (at_ k) (mkX h L).length c)).toArray, .int .i64 (mkE h L.n)] ∧ St w0 w' [] [k] [Rw 87 40 (mkX h L).length c ((mkX h L).flatMap txV)] := by
  refine enter Try.func52 rfl Try.ntmps52 (Nat.le_of_ble_eq_true rfl) ?_
  have S := St.init w0
  have k1 := hk.1
  have k2 := hk.2
  have hal := txsums_all L.xs
  have hln : (L.xs.map txsum).length = L.n := by rw [List.length_map]; exact hL.1
  obtain ⟨i1, i2, i3, R, oR⟩ := id hL
  refine s_seq (s_plain ?_)
  refine p_does (d_boxA S rfl) rfl ?_
  rintro _ w ⟨b2, rfl, S⟩
  refine p_does (d_allocA S zs69) rfl ?_
  rintro _ w ⟨b4, rfl, S⟩
  refine p_val (e_assign (v := .int _ _) rfl) rfl ?_
  refine p_nil (x_then (s_seq (s_seq ?_)))
  refine s_cutK (ks := [some b4, some b2]) (ps := [Ex _ _, Ex _ _]) [(1, .slice _ _ _), (2, .pointer _), (4, .pointer _)] ⟨rfl, rfl, rfl, trivial⟩ S (fun keep ks ps f' w' => ∃ u bb, f' = upds u ((14, .bool bb) :: keep) ∧ (bb = true ↔ (h.height < 0 ∨ 1073741824 ≤ h.height)) ∧ St w0 w' [] ks ps) ?_ ?_
  · refine s_plain ?_
    refine p_val (e_field rfl Try.underlying66 rfl sz3 (by decide)) rfl ?_
    refine p_val (e_loadF1 (i := 1) (off := 32) rfl ag3 S (j := 1) rfl rfl rfl (by first | with_reducible assumption | (rw [bv_length]; with_reducible assumption) | (rw [List.size_toArray, bv_length]; with_reducible assumption) | (simp [cat, Value.cells, headC, blkC, hk.1, hk.2, length_mroot, length_hsum, length_zsum, zc69, zc66]; done) | (simp [cat, Value.cells, headC, blkC, hk.1, hk.2, length_mroot, length_hsum, length_zsum, zc69, zc66]; omega) | rfl)) rfl ?_
    refine p_valB (e_lss rfl rfl) rfl (fun hg9 => ?_) (fun hg9 => ?_)
    · refine p_val (e_move (v := .bool _) rfl) rfl ?_
      refine p_no rfl rfl rfl rfl rfl ?_
      refine p_no rfl rfl rfl rfl rfl ?_
      refine p_no rfl rfl rfl rfl rfl ?_
      refine p_val (e_pick_t rfl rfl) rfl ?_
      exact p_nil (x_then ⟨_, rfl, _, _, upds_eq ⟨rfl, rfl, rfl, rfl, trivial⟩, by first | (simp only [decide_eq_true_eq, eq_self, true_iff, iff_true, iff_false, Bool.false_eq_true, false_iff, ge_iff_le, gt_iff_lt, true_and, and_true, false_and, and_false, true_or, or_true, false_or, or_false, not_true_eq_false, not_false_eq_true]; omega) | (simp; done) | omega | (simp_all; done), S⟩)
    · refine p_val (e_move (v := .bool _) rfl) rfl ?_
      refine pg_val rfl rfl rfl rfl rfl (e_field rfl Try.underlying66 rfl sz3 (by decide)) ?_
      refine pg_val rfl rfl rfl rfl rfl (e_loadF1 (i := 1) (off := 32) rfl ag3 S (j := 1) rfl rfl rfl (by first | with_reducible assumption | (rw [bv_length]; with_reducible assumption) | (rw [List.size_toArray, bv_length]; with_reducible assumption) | (simp [cat, Value.cells, headC, blkC, hk.1, hk.2, length_mroot, length_hsum, length_zsum, zc69, zc66]; done) | (simp [cat, Value.cells, headC, blkC, hk.1, hk.2, length_mroot, length_hsum, length_zsum, zc69, zc66]; omega) | rfl)) ?_
      refine pg_val rfl rfl rfl rfl rfl (e_geq rfl rfl) ?_
      refine p_val (e_pick_f rfl rfl) rfl ?_
      exact p_nil (x_then ⟨_, rfl, _, _, upds_eq ⟨rfl, rfl, rfl, rfl, trivial⟩, by first | (simp only [decide_eq_true_eq, eq_self, true_iff, iff_true, iff_false, Bool.false_eq_true, false_iff, ge_iff_le, gt_iff_lt, true_and, and_true, false_and, and_false, true_or, or_true, false_or, or_false, not_true_eq_false, not_false_eq_true]; omega) | (simp; done) | omega | (simp_all; done), S⟩)
  · rintro f w ⟨u, b14, rfl, hb14, S⟩
    refine x_then ?_
    refine s_condb rfl (fun hc14 => ?_) (fun hc14 => ?_)
    · have hp14 : (h.height < 0 ∨ 1073741824 ≤ h.height) := hb14.1 hc14
      refine s_seq (s_plain ?_)
      refine p_val (e_buildS0 bt69) rfl ?_
      refine p_does (d_storeW S 0 rfl rfl (by first | exact bv_one _ | exact sv_one _ | exact iv_one _ | with_reducible assumption | (refine One.mem ?_; repeat (first | exact One.bv _ | exact One.sv _ | exact One.iv _ | exact One.nil | exact One.cat0 | refine One.cat1 ?_ ?_ | refine One.cons rfl ?_ | refine One.append ?_ ?_))) sz69 (by first | with_reducible assumption | (rw [bv_length]; with_reducible assumption) | (rw [List.size_toArray, bv_length]; with_reducible assumption) | (simp [cat, Value.cells, headC, blkC, hk.1, hk.2, length_mroot, length_hsum, length_zsum, zc69, zc66]; done) | (simp [cat, Value.cells, headC, blkC, hk.1, hk.2, length_mroot, length_hsum, length_zsum, zc69, zc66]; omega) | rfl) rfl rfl (by first | with_reducible assumption | (rw [bv_length]; with_reducible assumption) | (rw [List.size_toArray, bv_length]; with_reducible assumption) | (simp [cat, Value.cells, headC, blkC, hk.1, hk.2, length_mroot, length_hsum, length_zsum, zc69, zc66]; done) | (simp [cat, Value.cells, headC, blkC, hk.1, hk.2, length_mroot, length_hsum, length_zsum, zc69, zc66]; omega) | rfl)) rfl ?_
      intro _ w S
      refine p_val (e_assign (v := .int _ _) rfl) rfl ?_
      refine p_nil (x_then (s_ret (x_then_ret ?_)))
      exact postC1 (v := .int _ _) Try.results52 S 0 rfl rfl rfl rfl ag69 sz69 (by first | with_reducible assumption | (rw [bv_length]; with_reducible assumption) | (rw [List.size_toArray, bv_length]; with_reducible assumption) | (simp [cat, Value.cells, headC, blkC, hk.1, hk.2, length_mroot, length_hsum, length_zsum, zc69, zc66]; done) | (simp [cat, Value.cells, headC, blkC, hk.1, hk.2, length_mroot, length_hsum, length_zsum, zc69, zc66]; omega) | rfl) (by have e : mkE h L.n = 5 := if_pos hp14; unfold mkH mkX; rw [e, if_neg (by decide), if_neg (by decide)]; exact ⟨none, 0, rfl, (S.addNil 87 40).pk [0] rfl⟩)
    · have hp14 : ¬ (h.height < 0 ∨ 1073741824 ≤ h.height) := fun h => by rw [hb14.2 h] at hc14; cases hc14
      refine s_skip (x_then (s_seq (s_seq (s_plain ?_))))
      refine p_val (e_move (v := .slice _ _ _) rfl) rfl ?_
      refine p_val (e_len rfl Try.underlying67) rfl ?_
      refine p_val (e_gtr rfl rfl) rfl ?_
      refine p_nil (x_then ?_)
      refine s_cond rfl (fun hc18 => ?_) (fun hc18 => ?_)
      · refine s_seq (s_plain ?_)
        refine p_val (e_buildS0 bt69) rfl ?_
        refine p_does (d_storeW S 0 rfl rfl (by first | exact bv_one _ | exact sv_one _ | exact iv_one _ | with_reducible assumption | (refine One.mem ?_; repeat (first | exact One.bv _ | exact One.sv _ | exact One.iv _ | exact One.nil | exact One.cat0 | refine One.cat1 ?_ ?_ | refine One.cons rfl ?_ | refine One.append ?_ ?_))) sz69 (by first | with_reducible assumption | (rw [bv_length]; with_reducible assumption) | (rw [List.size_toArray, bv_length]; with_reducible assumption) | (simp [cat, Value.cells, headC, blkC, hk.1, hk.2, length_mroot, length_hsum, length_zsum, zc69, zc66]; done) | (simp [cat, Value.cells, headC, blkC, hk.1, hk.2, length_mroot, length_hsum, length_zsum, zc69, zc66]; omega) | rfl) rfl rfl (by first | with_reducible assumption | (rw [bv_length]; with_reducible assumption) | (rw [List.size_toArray, bv_length]; with_reducible assumption) | (simp [cat, Value.cells, headC, blkC, hk.1, hk.2, length_mroot, length_hsum, length_zsum, zc69, zc66]; done) | (simp [cat, Value.cells, headC, blkC, hk.1, hk.2, length_mroot, length_hsum, length_zsum, zc69, zc66]; omega) | rfl)) rfl ?_
        intro _ w S
        refine p_val (e_assign (v := .int _ _) rfl) rfl ?_
        refine p_nil (x_then (s_ret (x_then_ret ?_)))
        exact postC1 (v := .int _ _) Try.results52 S 0 rfl rfl rfl rfl ag69 sz69 (by first | with_reducible assumption | (rw [bv_length]; with_reducible assumption) | (rw [List.size_toArray, bv_length]; with_reducible assumption) | (simp [cat, Value.cells, headC, blkC, hk.1, hk.2, length_mroot, length_hsum, length_zsum, zc69, zc66]; done) | (simp [cat, Value.cells, headC, blkC, hk.1, hk.2, length_mroot, length_hsum, length_zsum, zc69, zc66]; omega) | rfl) (by have e : mkE h L.n = 6 := (if_neg hp14).trans (if_pos (by omega)); unfold mkH mkX; rw [e, if_neg (by decide), if_neg (by decide)]; exact ⟨none, 0, rfl, (S.addNil 87 40).pk [0] rfl⟩)
      · refine s_skip (x_then (s_seq ?_))
        refine s_cutK (ks := [some b4, some b2]) (ps := [Ex _ _, Ex _ _]) [(1, .slice _ _ _), (4, .pointer _)] ⟨rfl, rfl, trivial⟩ S (fun keep ks ps f' w' => ∃ u y6, f' = upds u ((6, .pointer (some ⟨y6, 0, none⟩)) :: keep) ∧ St w0 w' [] [some y6, some b4, some b2] [Ex (cat (headC ⟨hsum h, h.height + 1, mroot (L.xs.map txsum), (L.n : Int)⟩)).toArray 66, (ps.getD 0 fun _ => True), (ps.getD 1 fun _ => True)]) ?_ ?_
        · refine s_drawTK (ks := [some b4, some b2]) (ps := [Ex _ _, Ex _ _]) S (.sq [(true, 0), (true, 2), (true, 3), (true, 4), (true, 5), (true, 8), (true, 9)] (.fork 1 (.fork 6 (.fork 7 (.sq [(true, 10), (false, 11)] .stop) (.fork 11 (.sq [(false, 7), (true, 10)] .stop) .none_)) (.fork 11 (.sq [(false, 6), (false, 7), (true, 10)] .stop) .none_)) (.fork 11 (.sq [(false, 1), (false, 6), (false, 7), (true, 10)] .stop) .none_))) [12] [12] mixed (by kernel_rfl) (by repeat (first | exact Calm.post _ _ _ | refine Calm.then ?_ _ | refine Calm.inB ?_ _)) (fun hS => ?_)
          have S := S.drew
          refine t_sq ?_
          refine q_val (fun w hS => e_loadW 1 rfl ag66 sz66 hS rfl rfl (by first | with_reducible assumption | (rw [bv_length]; with_reducible assumption) | (rw [List.size_toArray, bv_length]; with_reducible assumption) | (simp [cat, Value.cells, headC, blkC, hk.1, hk.2, length_mroot, length_hsum, length_zsum, zc69, zc66]; done) | (simp [cat, Value.cells, headC, blkC, hk.1, hk.2, length_mroot, length_hsum, length_zsum, zc69, zc66]; omega) | rfl)) rfl hS ?_
          refine q_val (fun w hS => e_field rfl Try.underlying66 rfl sz3 (by decide)) rfl hS ?_
          refine q_val (fun w hS => e_loadF1 (i := 1) (off := 32) rfl ag3 hS (j := 1) rfl rfl rfl (by first | with_reducible assumption | (rw [bv_length]; with_reducible assumption) | (rw [List.size_toArray, bv_length]; with_reducible assumption) | (simp [cat, Value.cells, headC, blkC, hk.1, hk.2, length_mroot, length_hsum, length_zsum, zc69, zc66]; done) | (simp [cat, Value.cells, headC, blkC, hk.1, hk.2, length_mroot, length_hsum, length_zsum, zc69, zc66]; omega) | rfl)) rfl hS ?_
          refine q_val (fun w hS => e_add64 rfl rfl (by omega)) rfl hS ?_
          refine q_val (fun w hS => e_move (v := .slice _ _ _) rfl) rfl hS ?_
          refine q_val (fun w hS => e_move (v := .slice _ _ _) rfl) rfl hS ?_
          refine q_val (fun w hS => e_len rfl Try.underlying67) rfl hS ?_
          refine q_nil ?_
          refine t_fork ?_ ?_
          · refine q_does (d_call Try.func53 nm53 rfl rfl (bh_sum _ h hk)) rfl ?_
            rintro _ w ⟨rfl, hB⟩
            have S := S.below hB
            have hS := S.pk [0, 1] rfl
            refine ⟨hS, ?_⟩
            refine q_nil ?_
            refine t_fork ?_ ?_
            · refine q_does (d_call Try.func89 nm89 rfl rfl (bk_sums _ L (hL.carry (S.carry0)) hn hs)) rfl ?_
              rintro _ w ⟨k26, c26, rfl, T⟩
              have S := S.merge T rfl
              have hS := S.pk [1, 2] rfl
              refine ⟨hS, ?_⟩
              refine q_nil ?_
              refine t_fork ?_ ?_
              · refine q_does (d_call Try.func42 nm42 rfl rfl (mk_root _ _ _ (L.xs.map txsum) (S.rdRw 0 rfl rfl) hal (by omega))) rfl ?_
                rintro _ w ⟨rfl, hB⟩
                have S := S.below hB
                have hS := S.pk [1, 2] rfl
                refine ⟨hS, ?_⟩
                refine q_nil ?_
                refine t_sq ?_
                refine q_val (fun w hS => e_buildS bt66 (Eq.trans (fill_cat (v := .agg _) (l' := [_]) 0 1 rfl ((List.append_nil _).symm) (by first | with_reducible assumption | (rw [bv_length]; with_reducible assumption) | (rw [List.size_toArray, bv_length]; with_reducible assumption) | (simp [cat, Value.cells, headC, blkC, hk.1, hk.2, length_mroot, length_hsum, length_zsum, zc69, zc66]; done) | (simp [cat, Value.cells, headC, blkC, hk.1, hk.2, length_mroot, length_hsum, length_zsum, zc69, zc66]; omega) | rfl) (by first | with_reducible assumption | (rw [bv_length]; with_reducible assumption) | (rw [List.size_toArray, bv_length]; with_reducible assumption) | (simp [cat, Value.cells, headC, blkC, hk.1, hk.2, length_mroot, length_hsum, length_zsum, zc69, zc66]; done) | (simp [cat, Value.cells, headC, blkC, hk.1, hk.2, length_mroot, length_hsum, length_zsum, zc69, zc66]; omega) | rfl) (by first | with_reducible assumption | (rw [bv_length]; with_reducible assumption) | (rw [List.size_toArray, bv_length]; with_reducible assumption) | (simp [cat, Value.cells, headC, blkC, hk.1, hk.2, length_mroot, length_hsum, length_zsum, zc69, zc66]; done) | (simp [cat, Value.cells, headC, blkC, hk.1, hk.2, length_mroot, length_hsum, length_zsum, zc69, zc66]; omega) | rfl)) (Eq.trans (fill_cat (v := .int _ _) (l' := [[_]]) 1 1 rfl (rfl) (by first | with_reducible assumption | (rw [bv_length]; with_reducible assumption) | (rw [List.size_toArray, bv_length]; with_reducible assumption) | (simp [cat, Value.cells, headC, blkC, hk.1, hk.2, length_mroot, length_hsum, length_zsum, zc69, zc66]; done) | (simp [cat, Value.cells, headC, blkC, hk.1, hk.2, length_mroot, length_hsum, length_zsum, zc69, zc66]; omega) | rfl) (by first | with_reducible assumption | (rw [bv_length]; with_reducible assumption) | (rw [List.size_toArray, bv_length]; with_reducible assumption) | (simp [cat, Value.cells, headC, blkC, hk.1, hk.2, length_mroot, length_hsum, length_zsum, zc69, zc66]; done) | (simp [cat, Value.cells, headC, blkC, hk.1, hk.2, length_mroot, length_hsum, length_zsum, zc69, zc66]; omega) | rfl) (by first | with_reducible assumption | (rw [bv_length]; with_reducible assumption) | (rw [List.size_toArray, bv_length]; with_reducible assumption) | (simp [cat, Value.cells, headC, blkC, hk.1, hk.2, length_mroot, length_hsum, length_zsum, zc69, zc66]; done) | (simp [cat, Value.cells, headC, blkC, hk.1, hk.2, length_mroot, length_hsum, length_zsum, zc69, zc66]; omega) | rfl)) (Eq.trans (fill_cat (v := .agg _) (l' := [_]) 2 1 rfl ((List.append_nil _).symm) (by first | with_reducible assumption | (rw [bv_length]; with_reducible assumption) | (rw [List.size_toArray, bv_length]; with_reducible assumption) | (simp [cat, Value.cells, headC, blkC, hk.1, hk.2, length_mroot, length_hsum, length_zsum, zc69, zc66]; done) | (simp [cat, Value.cells, headC, blkC, hk.1, hk.2, length_mroot, length_hsum, length_zsum, zc69, zc66]; omega) | rfl) (by first | with_reducible assumption | (rw [bv_length]; with_reducible assumption) | (rw [List.size_toArray, bv_length]; with_reducible assumption) | (simp [cat, Value.cells, headC, blkC, hk.1, hk.2, length_mroot, length_hsum, length_zsum, zc69, zc66]; done) | (simp [cat, Value.cells, headC, blkC, hk.1, hk.2, length_mroot, length_hsum, length_zsum, zc69, zc66]; omega) | rfl) (by first | with_reducible assumption | (rw [bv_length]; with_reducible assumption) | (rw [List.size_toArray, bv_length]; with_reducible assumption) | (simp [cat, Value.cells, headC, blkC, hk.1, hk.2, length_mroot, length_hsum, length_zsum, zc69, zc66]; done) | (simp [cat, Value.cells, headC, blkC, hk.1, hk.2, length_mroot, length_hsum, length_zsum, zc69, zc66]; omega) | rfl)) (Eq.trans (fill_cat (v := .int _ _) (l' := [[_]]) 3 1 rfl (rfl) (by first | with_reducible assumption | (rw [bv_length]; with_reducible assumption) | (rw [List.size_toArray, bv_length]; with_reducible assumption) | (simp [cat, Value.cells, headC, blkC, hk.1, hk.2, length_mroot, length_hsum, length_zsum, zc69, zc66]; done) | (simp [cat, Value.cells, headC, blkC, hk.1, hk.2, length_mroot, length_hsum, length_zsum, zc69, zc66]; omega) | rfl) (by first | with_reducible assumption | (rw [bv_length]; with_reducible assumption) | (rw [List.size_toArray, bv_length]; with_reducible assumption) | (simp [cat, Value.cells, headC, blkC, hk.1, hk.2, length_mroot, length_hsum, length_zsum, zc69, zc66]; done) | (simp [cat, Value.cells, headC, blkC, hk.1, hk.2, length_mroot, length_hsum, length_zsum, zc69, zc66]; omega) | rfl) (by first | with_reducible assumption | (rw [bv_length]; with_reducible assumption) | (rw [List.size_toArray, bv_length]; with_reducible assumption) | (simp [cat, Value.cells, headC, blkC, hk.1, hk.2, length_mroot, length_hsum, length_zsum, zc69, zc66]; done) | (simp [cat, Value.cells, headC, blkC, hk.1, hk.2, length_mroot, length_hsum, length_zsum, zc69, zc66]; omega) | rfl)) rfl))))) rfl hS ?_
                refine q_does (d_allocA S zs66) rfl ?_
                rintro _ w ⟨y6, rfl, S⟩
                have hS := S.pk [2, 3] rfl
                refine ⟨hS, ?_⟩
                refine q_nil ?_
                refine t_stop ?_
                refine p_does (d_storeW S 0 rfl rfl (by first | exact bv_one _ | exact sv_one _ | exact iv_one _ | with_reducible assumption | (refine One.mem ?_; repeat (first | exact One.bv _ | exact One.sv _ | exact One.iv _ | exact One.nil | exact One.cat0 | refine One.cat1 ?_ ?_ | refine One.cons rfl ?_ | refine One.append ?_ ?_))) sz66 (by first | with_reducible assumption | (rw [bv_length]; with_reducible assumption) | (rw [List.size_toArray, bv_length]; with_reducible assumption) | (simp [cat, Value.cells, headC, blkC, hk.1, hk.2, length_mroot, length_hsum, length_zsum, zc69, zc66]; done) | (simp [cat, Value.cells, headC, blkC, hk.1, hk.2, length_mroot, length_hsum, length_zsum, zc69, zc66]; omega) | rfl) rfl rfl (by first | with_reducible assumption | (rw [bv_length]; with_reducible assumption) | (rw [List.size_toArray, bv_length]; with_reducible assumption) | (simp [cat, Value.cells, headC, blkC, hk.1, hk.2, length_mroot, length_hsum, length_zsum, zc69, zc66]; done) | (simp [cat, Value.cells, headC, blkC, hk.1, hk.2, length_mroot, length_hsum, length_zsum, zc69, zc66]; omega) | rfl)) rfl ?_
                intro _ w S
                exact p_nil (x_then ⟨_, rfl, _, _, upds_eq ⟨rfl, rfl, rfl, trivial⟩, S.pk [0, 2, 3] rfl⟩)
              · refine t_fork ?_ ?_
                · refine q_does (d_allocA S zs66) rfl ?_
                  rintro _ w ⟨y6, rfl, S⟩
                  have hS := S.pk [2, 3] rfl
                  refine ⟨hS, ?_⟩
                  refine q_nil ?_
                  refine t_sq ?_
                  refine q_does (d_call Try.func42 nm42 rfl rfl (mk_root _ _ _ (L.xs.map txsum) (S.rdRw 1 rfl rfl) hal (by omega))) rfl ?_
                  rintro _ w ⟨rfl, hB⟩
                  have S := S.below hB
                  have hS := S.pk [2, 3] rfl
                  refine ⟨hS, ?_⟩
                  refine q_val (fun w hS => e_buildS bt66 (Eq.trans (fill_cat (v := .agg _) (l' := [_]) 0 1 rfl ((List.append_nil _).symm) (by first | with_reducible assumption | (rw [bv_length]; with_reducible assumption) | (rw [List.size_toArray, bv_length]; with_reducible assumption) | (simp [cat, Value.cells, headC, blkC, hk.1, hk.2, length_mroot, length_hsum, length_zsum, zc69, zc66]; done) | (simp [cat, Value.cells, headC, blkC, hk.1, hk.2, length_mroot, length_hsum, length_zsum, zc69, zc66]; omega) | rfl) (by first | with_reducible assumption | (rw [bv_length]; with_reducible assumption) | (rw [List.size_toArray, bv_length]; with_reducible assumption) | (simp [cat, Value.cells, headC, blkC, hk.1, hk.2, length_mroot, length_hsum, length_zsum, zc69, zc66]; done) | (simp [cat, Value.cells, headC, blkC, hk.1, hk.2, length_mroot, length_hsum, length_zsum, zc69, zc66]; omega) | rfl) (by first | with_reducible assumption | (rw [bv_length]; with_reducible assumption) | (rw [List.size_toArray, bv_length]; with_reducible assumption) | (simp [cat, Value.cells, headC, blkC, hk.1, hk.2, length_mroot, length_hsum, length_zsum, zc69, zc66]; done) | (simp [cat, Value.cells, headC, blkC, hk.1, hk.2, length_mroot, length_hsum, length_zsum, zc69, zc66]; omega) | rfl)) (Eq.trans (fill_cat (v := .int _ _) (l' := [[_]]) 1 1 rfl (rfl) (by first | with_reducible assumption | (rw [bv_length]; with_reducible assumption) | (rw [List.size_toArray, bv_length]; with_reducible assumption) | (simp [cat, Value.cells, headC, blkC, hk.1, hk.2, length_mroot, length_hsum, length_zsum, zc69, zc66]; done) | (simp [cat, Value.cells, headC, blkC, hk.1, hk.2, length_mroot, length_hsum, length_zsum, zc69, zc66]; omega) | rfl) (by first | with_reducible assumption | (rw [bv_length]; with_reducible assumption) | (rw [List.size_toArray, bv_length]; with_reducible assumption) | (simp [cat, Value.cells, headC, blkC, hk.1, hk.2, length_mroot, length_hsum, length_zsum, zc69, zc66]; done) | (simp [cat, Value.cells, headC, blkC, hk.1, hk.2, length_mroot, length_hsum, length_zsum, zc69, zc66]; omega) | rfl) (by first | with_reducible assumption | (rw [bv_length]; with_reducible assumption) | (rw [List.size_toArray, bv_length]; with_reducible assumption) | (simp [cat, Value.cells, headC, blkC, hk.1, hk.2, length_mroot, length_hsum, length_zsum, zc69, zc66]; done) | (simp [cat, Value.cells, headC, blkC, hk.1, hk.2, length_mroot, length_hsum, length_zsum, zc69, zc66]; omega) | rfl)) (Eq.trans (fill_cat (v := .agg _) (l' := [_]) 2 1 rfl ((List.append_nil _).symm) (by first | with_reducible assumption | (rw [bv_length]; with_reducible assumption) | (rw [List.size_toArray, bv_length]; with_reducible assumption) | (simp [cat, Value.cells, headC, blkC, hk.1, hk.2, length_mroot, length_hsum, length_zsum, zc69, zc66]; done) | (simp [cat, Value.cells, headC, blkC, hk.1, hk.2, length_mroot, length_hsum, length_zsum, zc69, zc66]; omega) | rfl) (by first | with_reducible assumption | (rw [bv_length]; with_reducible assumption) | (rw [List.size_toArray, bv_length]; with_reducible assumption) | (simp [cat, Value.cells, headC, blkC, hk.1, hk.2, length_mroot, length_hsum, length_zsum, zc69, zc66]; done) | (simp [cat, Value.cells, headC, blkC, hk.1, hk.2, length_mroot, length_hsum, length_zsum, zc69, zc66]; omega) | rfl) (by first | with_reducible assumption | (rw [bv_length]; with_reducible assumption) | (rw [List.size_toArray, bv_length]; with_reducible assumption) | (simp [cat, Value.cells, headC, blkC, hk.1, hk.2, length_mroot, length_hsum, length_zsum, zc69, zc66]; done) | (simp [cat, Value.cells, headC, blkC, hk.1, hk.2, length_mroot, length_hsum, length_zsum, zc69, zc66]; omega) | rfl)) (Eq.trans (fill_cat (v := .int _ _) (l' := [[_]]) 3 1 rfl (rfl) (by first | with_reducible assumption | (rw [bv_length]; with_reducible assumption) | (rw [List.size_toArray, bv_length]; with_reducible assumption) | (simp [cat, Value.cells, headC, blkC, hk.1, hk.2, length_mroot, length_hsum, length_zsum, zc69, zc66]; done) | (simp [cat, Value.cells, headC, blkC, hk.1, hk.2, length_mroot, length_hsum, length_zsum, zc69, zc66]; omega) | rfl) (by first | with_reducible assumption | (rw [bv_length]; with_reducible assumption) | (rw [List.size_toArray, bv_length]; with_reducible assumption) | (simp [cat, Value.cells, headC, blkC, hk.1, hk.2, length_mroot, length_hsum, length_zsum, zc69, zc66]; done) | (simp [cat, Value.cells, headC, blkC, hk.1, hk.2, length_mroot, length_hsum, length_zsum, zc69, zc66]; omega) | rfl) (by first | with_reducible assumption | (rw [bv_length]; with_reducible assumption) | (rw [List.size_toArray, bv_length]; with_reducible assumption) | (simp [cat, Value.cells, headC, blkC, hk.1, hk.2, length_mroot, length_hsum, length_zsum, zc69, zc66]; done) | (simp [cat, Value.cells, headC, blkC, hk.1, hk.2, length_mroot, length_hsum, length_zsum, zc69, zc66]; omega) | rfl)) rfl))))) rfl hS ?_
                  refine q_nil ?_
                  refine t_stop ?_
                  refine p_does (d_storeW S 0 rfl rfl (by first | exact bv_one _ | exact sv_one _ | exact iv_one _ | with_reducible assumption | (refine One.mem ?_; repeat (first | exact One.bv _ | exact One.sv _ | exact One.iv _ | exact One.nil | exact One.cat0 | refine One.cat1 ?_ ?_ | refine One.cons rfl ?_ | refine One.append ?_ ?_))) sz66 (by first | with_reducible assumption | (rw [bv_length]; with_reducible assumption) | (rw [List.size_toArray, bv_length]; with_reducible assumption) | (simp [cat, Value.cells, headC, blkC, hk.1, hk.2, length_mroot, length_hsum, length_zsum, zc69, zc66]; done) | (simp [cat, Value.cells, headC, blkC, hk.1, hk.2, length_mroot, length_hsum, length_zsum, zc69, zc66]; omega) | rfl) rfl rfl (by first | with_reducible assumption | (rw [bv_length]; with_reducible assumption) | (rw [List.size_toArray, bv_length]; with_reducible assumption) | (simp [cat, Value.cells, headC, blkC, hk.1, hk.2, length_mroot, length_hsum, length_zsum, zc69, zc66]; done) | (simp [cat, Value.cells, headC, blkC, hk.1, hk.2, length_mroot, length_hsum, length_zsum, zc69, zc66]; omega) | rfl)) rfl ?_
                  intro _ w S
                  exact p_nil (x_then ⟨_, rfl, _, _, upds_eq ⟨rfl, rfl, rfl, trivial⟩, S.pk [0, 2, 3] rfl⟩)
                · exact t_none
            · refine t_fork ?_ ?_
              · refine q_does (d_allocA S zs66) rfl ?_
                rintro _ w ⟨y6, rfl, S⟩
                have hS := S.pk [1, 2] rfl
                refine ⟨hS, ?_⟩
                refine q_nil ?_
                refine t_sq ?_
                refine q_does (d_call Try.func89 nm89 rfl rfl (bk_sums _ L (hL.carry (S.carry0)) hn hs)) rfl ?_
                rintro _ w ⟨k26, c26, rfl, T⟩
                have S := S.merge T rfl
                have hS := S.pk [2, 3] rfl
                refine ⟨hS, ?_⟩
                refine q_does (d_call Try.func42 nm42 rfl rfl (mk_root _ _ _ (L.xs.map txsum) (S.rdRw 0 rfl rfl) hal (by omega))) rfl ?_
                rintro _ w ⟨rfl, hB⟩
                have S := S.below hB
                have hS := S.pk [2, 3] rfl
                refine ⟨hS, ?_⟩
                refine q_val (fun w hS => e_buildS bt66 (Eq.trans (fill_cat (v := .agg _) (l' := [_]) 0 1 rfl ((List.append_nil _).symm) (by first | with_reducible assumption | (rw [bv_length]; with_reducible assumption) | (rw [List.size_toArray, bv_length]; with_reducible assumption) | (simp [cat, Value.cells, headC, blkC, hk.1, hk.2, length_mroot, length_hsum, length_zsum, zc69, zc66]; done) | (simp [cat, Value.cells, headC, blkC, hk.1, hk.2, length_mroot, length_hsum, length_zsum, zc69, zc66]; omega) | rfl) (by first | with_reducible assumption | (rw [bv_length]; with_reducible assumption) | (rw [List.size_toArray, bv_length]; with_reducible assumption) | (simp [cat, Value.cells, headC, blkC, hk.1, hk.2, length_mroot, length_hsum, length_zsum, zc69, zc66]; done) | (simp [cat, Value.cells, headC, blkC, hk.1, hk.2, length_mroot, length_hsum, length_zsum, zc69, zc66]; omega) | rfl) (by first | with_reducible assumption | (rw [bv_length]; with_reducible assumption) | (rw [List.size_toArray, bv_length]; with_reducible assumption) | (simp [cat, Value.cells, headC, blkC, hk.1, hk.2, length_mroot, length_hsum, length_zsum, zc69, zc66]; done) | (simp [cat, Value.cells, headC, blkC, hk.1, hk.2, length_mroot, length_hsum, length_zsum, zc69, zc66]; omega) | rfl)) (Eq.trans (fill_cat (v := .int _ _) (l' := [[_]]) 1 1 rfl (rfl) (by first | with_reducible assumption | (rw [bv_length]; with_reducible assumption) | (rw [List.size_toArray, bv_length]; with_reducible assumption) | (simp [cat, Value.cells, headC, blkC, hk.1, hk.2, length_mroot, length_hsum, length_zsum, zc69, zc66]; done) | (simp [cat, Value.cells, headC, blkC, hk.1, hk.2, length_mroot, length_hsum, length_zsum, zc69, zc66]; omega) | rfl) (by first | with_reducible assumption | (rw [bv_length]; with_reducible assumption) | (rw [List.size_toArray, bv_length]; with_reducible assumption) | (simp [cat, Value.cells, headC, blkC, hk.1, hk.2, length_mroot, length_hsum, length_zsum, zc69, zc66]; done) | (simp [cat, Value.cells, headC, blkC, hk.1, hk.2, length_mroot, length_hsum, length_zsum, zc69, zc66]; omega) | rfl) (by first | with_reducible assumption | (rw [bv_length]; with_reducible assumption) | (rw [List.size_toArray, bv_length]; with_reducible assumption) | (simp [cat, Value.cells, headC, blkC, hk.1, hk.2, length_mroot, length_hsum, length_zsum, zc69, zc66]; done) | (simp [cat, Value.cells, headC, blkC, hk.1, hk.2, length_mroot, length_hsum, length_zsum, zc69, zc66]; omega) | rfl)) (Eq.trans (fill_cat (v := .agg _) (l' := [_]) 2 1 rfl ((List.append_nil _).symm) (by first | with_reducible assumption | (rw [bv_length]; with_reducible assumption) | (rw [List.size_toArray, bv_length]; with_reducible assumption) | (simp [cat, Value.cells, headC, blkC, hk.1, hk.2, length_mroot, length_hsum, length_zsum, zc69, zc66]; done) | (simp [cat, Value.cells, headC, blkC, hk.1, hk.2, length_mroot, length_hsum, length_zsum, zc69, zc66]; omega) | rfl) (by first | with_reducible assumption | (rw [bv_length]; with_reducible assumption) | (rw [List.size_toArray, bv_length]; with_reducible assumption) | (simp [cat, Value.cells, headC, blkC, hk.1, hk.2, length_mroot, length_hsum, length_zsum, zc69, zc66]; done) | (simp [cat, Value.cells, headC, blkC, hk.1, hk.2, length_mroot, length_hsum, length_zsum, zc69, zc66]; omega) | rfl) (by first | with_reducible assumption | (rw [bv_length]; with_reducible assumption) | (rw [List.size_toArray, bv_length]; with_reducible assumption) | (simp [cat, Value.cells, headC, blkC, hk.1, hk.2, length_mroot, length_hsum, length_zsum, zc69, zc66]; done) | (simp [cat, Value.cells, headC, blkC, hk.1, hk.2, length_mroot, length_hsum, length_zsum, zc69, zc66]; omega) | rfl)) (Eq.trans (fill_cat (v := .int _ _) (l' := [[_]]) 3 1 rfl (rfl) (by first | with_reducible assumption | (rw [bv_length]; with_reducible assumption) | (rw [List.size_toArray, bv_length]; with_reducible assumption) | (simp [cat, Value.cells, headC, blkC, hk.1, hk.2, length_mroot, length_hsum, length_zsum, zc69, zc66]; done) | (simp [cat, Value.cells, headC, blkC, hk.1, hk.2, length_mroot, length_hsum, length_zsum, zc69, zc66]; omega) | rfl) (by first | with_reducible assumption | (rw [bv_length]; with_reducible assumption) | (rw [List.size_toArray, bv_length]; with_reducible assumption) | (simp [cat, Value.cells, headC, blkC, hk.1, hk.2, length_mroot, length_hsum, length_zsum, zc69, zc66]; done) | (simp [cat, Value.cells, headC, blkC, hk.1, hk.2, length_mroot, length_hsum, length_zsum, zc69, zc66]; omega) | rfl) (by first | with_reducible assumption | (rw [bv_length]; with_reducible assumption) | (rw [List.size_toArray, bv_length]; with_reducible assumption) | (simp [cat, Value.cells, headC, blkC, hk.1, hk.2, length_mroot, length_hsum, length_zsum, zc69, zc66]; done) | (simp [cat, Value.cells, headC, blkC, hk.1, hk.2, length_mroot, length_hsum, length_zsum, zc69, zc66]; omega) | rfl)) rfl))))) rfl hS ?_
                refine q_nil ?_
                refine t_stop ?_
                refine p_does (d_storeW S 1 rfl rfl (by first | exact bv_one _ | exact sv_one _ | exact iv_one _ | with_reducible assumption | (refine One.mem ?_; repeat (first | exact One.bv _ | exact One.sv _ | exact One.iv _ | exact One.nil | exact One.cat0 | refine One.cat1 ?_ ?_ | refine One.cons rfl ?_ | refine One.append ?_ ?_))) sz66 (by first | with_reducible assumption | (rw [bv_length]; with_reducible assumption) | (rw [List.size_toArray, bv_length]; with_reducible assumption) | (simp [cat, Value.cells, headC, blkC, hk.1, hk.2, length_mroot, length_hsum, length_zsum, zc69, zc66]; done) | (simp [cat, Value.cells, headC, blkC, hk.1, hk.2, length_mroot, length_hsum, length_zsum, zc69, zc66]; omega) | rfl) rfl rfl (by first | with_reducible assumption | (rw [bv_length]; with_reducible assumption) | (rw [List.size_toArray, bv_length]; with_reducible assumption) | (simp [cat, Value.cells, headC, blkC, hk.1, hk.2, length_mroot, length_hsum, length_zsum, zc69, zc66]; done) | (simp [cat, Value.cells, headC, blkC, hk.1, hk.2, length_mroot, length_hsum, length_zsum, zc69, zc66]; omega) | rfl)) rfl ?_
                intro _ w S
                exact p_nil (x_then ⟨_, rfl, _, _, upds_eq ⟨rfl, rfl, rfl, trivial⟩, S.pk [1, 2, 3] rfl⟩)
              · exact t_none
          · refine t_fork ?_ ?_
            · refine q_does (d_allocA S zs66) rfl ?_
              rintro _ w ⟨y6, rfl, S⟩
              have hS := S.pk [1, 2] rfl
              refine ⟨hS, ?_⟩
              refine q_nil ?_
              refine t_sq ?_
              refine q_does (d_call Try.func53 nm53 rfl rfl (bh_sum _ h hk)) rfl ?_
              rintro _ w ⟨rfl, hB⟩
              have S := S.below hB
              have hS := S.pk [1, 2] rfl
              refine ⟨hS, ?_⟩
              refine q_does (d_call Try.func89 nm89 rfl rfl (bk_sums _ L (hL.carry (S.carry0)) hn hs)) rfl ?_
              rintro _ w ⟨k26, c26, rfl, T⟩
              have S := S.merge T rfl
              have hS := S.pk [2, 3] rfl
              refine ⟨hS, ?_⟩
              refine q_does (d_call Try.func42 nm42 rfl rfl (mk_root _ _ _ (L.xs.map txsum) (S.rdRw 0 rfl rfl) hal (by omega))) rfl ?_
              rintro _ w ⟨rfl, hB⟩
              have S := S.below hB
              have hS := S.pk [2, 3] rfl
              refine ⟨hS, ?_⟩
              refine q_val (fun w hS => e_buildS bt66 (Eq.trans (fill_cat (v := .agg _) (l' := [_]) 0 1 rfl ((List.append_nil _).symm) (by first | with_reducible assumption | (rw [bv_length]; with_reducible assumption) | (rw [List.size_toArray, bv_length]; with_reducible assumption) | (simp [cat, Value.cells, headC, blkC, hk.1, hk.2, length_mroot, length_hsum, length_zsum, zc69, zc66]; done) | (simp [cat, Value.cells, headC, blkC, hk.1, hk.2, length_mroot, length_hsum, length_zsum, zc69, zc66]; omega) | rfl) (by first | with_reducible assumption | (rw [bv_length]; with_reducible assumption) | (rw [List.size_toArray, bv_length]; with_reducible assumption) | (simp [cat, Value.cells, headC, blkC, hk.1, hk.2, length_mroot, length_hsum, length_zsum, zc69, zc66]; done) | (simp [cat, Value.cells, headC, blkC, hk.1, hk.2, length_mroot, length_hsum, length_zsum, zc69, zc66]; omega) | rfl) (by first | with_reducible assumption | (rw [bv_length]; with_reducible assumption) | (rw [List.size_toArray, bv_length]; with_reducible assumption) | (simp [cat, Value.cells, headC, blkC, hk.1, hk.2, length_mroot, length_hsum, length_zsum, zc69, zc66]; done) | (simp [cat, Value.cells, headC, blkC, hk.1, hk.2, length_mroot, length_hsum, length_zsum, zc69, zc66]; omega) | rfl)) (Eq.trans (fill_cat (v := .int _ _) (l' := [[_]]) 1 1 rfl (rfl) (by first | with_reducible assumption | (rw [bv_length]; with_reducible assumption) | (rw [List.size_toArray, bv_length]; with_reducible assumption) | (simp [cat, Value.cells, headC, blkC, hk.1, hk.2, length_mroot, length_hsum, length_zsum, zc69, zc66]; done) | (simp [cat, Value.cells, headC, blkC, hk.1, hk.2, length_mroot, length_hsum, length_zsum, zc69, zc66]; omega) | rfl) (by first | with_reducible assumption | (rw [bv_length]; with_reducible assumption) | (rw [List.size_toArray, bv_length]; with_reducible assumption) | (simp [cat, Value.cells, headC, blkC, hk.1, hk.2, length_mroot, length_hsum, length_zsum, zc69, zc66]; done) | (simp [cat, Value.cells, headC, blkC, hk.1, hk.2, length_mroot, length_hsum, length_zsum, zc69, zc66]; omega) | rfl) (by first | with_reducible assumption | (rw [bv_length]; with_reducible assumption) | (rw [List.size_toArray, bv_length]; with_reducible assumption) | (simp [cat, Value.cells, headC, blkC, hk.1, hk.2, length_mroot, length_hsum, length_zsum, zc69, zc66]; done) | (simp [cat, Value.cells, headC, blkC, hk.1, hk.2, length_mroot, length_hsum, length_zsum, zc69, zc66]; omega) | rfl)) (Eq.trans (fill_cat (v := .agg _) (l' := [_]) 2 1 rfl ((List.append_nil _).symm) (by first | with_reducible assumption | (rw [bv_length]; with_reducible assumption) | (rw [List.size_toArray, bv_length]; with_reducible assumption) | (simp [cat, Value.cells, headC, blkC, hk.1, hk.2, length_mroot, length_hsum, length_zsum, zc69, zc66]; done) | (simp [cat, Value.cells, headC, blkC, hk.1, hk.2, length_mroot, length_hsum, length_zsum, zc69, zc66]; omega) | rfl) (by first | with_reducible assumption | (rw [bv_length]; with_reducible assumption) | (rw [List.size_toArray, bv_length]; with_reducible assumption) | (simp [cat, Value.cells, headC, blkC, hk.1, hk.2, length_mroot, length_hsum, length_zsum, zc69, zc66]; done) | (simp [cat, Value.cells, headC, blkC, hk.1, hk.2, length_mroot, length_hsum, length_zsum, zc69, zc66]; omega) | rfl) (by first | with_reducible assumption | (rw [bv_length]; with_reducible assumption) | (rw [List.size_toArray, bv_length]; with_reducible assumption) | (simp [cat, Value.cells, headC, blkC, hk.1, hk.2, length_mroot, length_hsum, length_zsum, zc69, zc66]; done) | (simp [cat, Value.cells, headC, blkC, hk.1, hk.2, length_mroot, length_hsum, length_zsum, zc69, zc66]; omega) | rfl)) (Eq.trans (fill_cat (v := .int _ _) (l' := [[_]]) 3 1 rfl (rfl) (by first | with_reducible assumption | (rw [bv_length]; with_reducible assumption) | (rw [List.size_toArray, bv_length]; with_reducible assumption) | (simp [cat, Value.cells, headC, blkC, hk.1, hk.2, length_mroot, length_hsum, length_zsum, zc69, zc66]; done) | (simp [cat, Value.cells, headC, blkC, hk.1, hk.2, length_mroot, length_hsum, length_zsum, zc69, zc66]; omega) | rfl) (by first | with_reducible assumption | (rw [bv_length]; with_reducible assumption) | (rw [List.size_toArray, bv_length]; with_reducible assumption) | (simp [cat, Value.cells, headC, blkC, hk.1, hk.2, length_mroot, length_hsum, length_zsum, zc69, zc66]; done) | (simp [cat, Value.cells, headC, blkC, hk.1, hk.2, length_mroot, length_hsum, length_zsum, zc69, zc66]; omega) | rfl) (by first | with_reducible assumption | (rw [bv_length]; with_reducible assumption) | (rw [List.size_toArray, bv_length]; with_reducible assumption) | (simp [cat, Value.cells, headC, blkC, hk.1, hk.2, length_mroot, length_hsum, length_zsum, zc69, zc66]; done) | (simp [cat, Value.cells, headC, blkC, hk.1, hk.2, length_mroot, length_hsum, length_zsum, zc69, zc66]; omega) | rfl)) rfl))))) rfl hS ?_
              refine q_nil ?_
              refine t_stop ?_
              refine p_does (d_storeW S 1 rfl rfl (by first | exact bv_one _ | exact sv_one _ | exact iv_one _ | with_reducible assumption | (refine One.mem ?_; repeat (first | exact One.bv _ | exact One.sv _ | exact One.iv _ | exact One.nil | exact One.cat0 | refine One.cat1 ?_ ?_ | refine One.cons rfl ?_ | refine One.append ?_ ?_))) sz66 (by first | with_reducible assumption | (rw [bv_length]; with_reducible assumption) | (rw [List.size_toArray, bv_length]; with_reducible assumption) | (simp [cat, Value.cells, headC, blkC, hk.1, hk.2, length_mroot, length_hsum, length_zsum, zc69, zc66]; done) | (simp [cat, Value.cells, headC, blkC, hk.1, hk.2, length_mroot, length_hsum, length_zsum, zc69, zc66]; omega) | rfl) rfl rfl (by first | with_reducible assumption | (rw [bv_length]; with_reducible assumption) | (rw [List.size_toArray, bv_length]; with_reducible assumption) | (simp [cat, Value.cells, headC, blkC, hk.1, hk.2, length_mroot, length_hsum, length_zsum, zc69, zc66]; done) | (simp [cat, Value.cells, headC, blkC, hk.1, hk.2, length_mroot, length_hsum, length_zsum, zc69, zc66]; omega) | rfl)) rfl ?_
              intro _ w S
              exact p_nil (x_then ⟨_, rfl, _, _, upds_eq ⟨rfl, rfl, rfl, trivial⟩, S.pk [1, 2, 3] rfl⟩)
            · exact t_none
        · rintro f w ⟨u, y6, rfl, S⟩
          refine x_then (s_seq ?_)
          refine s_drawK (ks := [some y6, some b2]) (ps := [Ex _ _, Ex _ _]) (S.pk [0, 2] rfl) [(true, 0), (true, 1), (false, 2), (true, 3), (false, 4)] [5] [5] mixed (by kernel_rfl) (by repeat (first | exact Calm.post _ _ _ | refine Calm.then ?_ _ | refine Calm.inB ?_ _)) (fun hS => ?_)
          have S := S.drew
          refine q_val (fun w hS => e_loadW 0 rfl ag66 sz66 hS rfl rfl (by first | with_reducible assumption | (rw [bv_length]; with_reducible assumption) | (rw [List.size_toArray, bv_length]; with_reducible assumption) | (simp [cat, Value.cells, headC, blkC, hk.1, hk.2, length_mroot, length_hsum, length_zsum, zc69, zc66]; done) | (simp [cat, Value.cells, headC, blkC, hk.1, hk.2, length_mroot, length_hsum, length_zsum, zc69, zc66]; omega) | rfl)) rfl hS ?_
          refine q_val (fun w hS => e_move (v := .slice _ _ _) rfl) rfl hS ?_
          have S := S.addNil 87 40
          refine q_does (d_append S 0 rfl rfl Try.underlying67 el87 rfl rfl (S.rdOld R rfl) (txs_one _) (by first | omega | (simp only [List.length_append, List.length_cons, List.length_nil, bv_length, Value.cells, headC, blkC, hk.1, hk.2, length_mroot, length_hsum, length_zsum, zc69, zc66]; omega) | (simp [cat, Value.cells, headC, blkC, hk.1, hk.2, length_mroot, length_hsum, length_zsum, zc69, zc66]; omega)) (by unfold maxLen; first | omega | (simp only [List.length_append, List.length_cons, List.length_nil, bv_length, Value.cells, headC, blkC, hk.1, hk.2, length_mroot, length_hsum, length_zsum, zc69, zc66]; omega))) rfl ?_
          rintro _ w ⟨k33, c33, rfl, S⟩
          have hS := S.pk [1, 3] rfl
          refine ⟨hS, ?_⟩
          refine q_val (fun w hS => e_buildS bt69 (Eq.trans (fill_cat (v := .agg _) (l' := _) 0 4 rfl (rfl) (by first | with_reducible assumption | (rw [bv_length]; with_reducible assumption) | (rw [List.size_toArray, bv_length]; with_reducible assumption) | (simp [cat, Value.cells, headC, blkC, hk.1, hk.2, length_mroot, length_hsum, length_zsum, zc69, zc66]; done) | (simp [cat, Value.cells, headC, blkC, hk.1, hk.2, length_mroot, length_hsum, length_zsum, zc69, zc66]; omega) | rfl) (by first | with_reducible assumption | (rw [bv_length]; with_reducible assumption) | (rw [List.size_toArray, bv_length]; with_reducible assumption) | (simp [cat, Value.cells, headC, blkC, hk.1, hk.2, length_mroot, length_hsum, length_zsum, zc69, zc66]; done) | (simp [cat, Value.cells, headC, blkC, hk.1, hk.2, length_mroot, length_hsum, length_zsum, zc69, zc66]; omega) | rfl) (by first | with_reducible assumption | (rw [bv_length]; with_reducible assumption) | (rw [List.size_toArray, bv_length]; with_reducible assumption) | (simp [cat, Value.cells, headC, blkC, hk.1, hk.2, length_mroot, length_hsum, length_zsum, zc69, zc66]; done) | (simp [cat, Value.cells, headC, blkC, hk.1, hk.2, length_mroot, length_hsum, length_zsum, zc69, zc66]; omega) | rfl)) (Eq.trans (fill_cat (v := .slice _ _ _) (l' := [[_]]) 4 1 rfl (rfl) (by first | with_reducible assumption | (rw [bv_length]; with_reducible assumption) | (rw [List.size_toArray, bv_length]; with_reducible assumption) | (simp [cat, Value.cells, headC, blkC, hk.1, hk.2, length_mroot, length_hsum, length_zsum, zc69, zc66]; done) | (simp [cat, Value.cells, headC, blkC, hk.1, hk.2, length_mroot, length_hsum, length_zsum, zc69, zc66]; omega) | rfl) (by first | with_reducible assumption | (rw [bv_length]; with_reducible assumption) | (rw [List.size_toArray, bv_length]; with_reducible assumption) | (simp [cat, Value.cells, headC, blkC, hk.1, hk.2, length_mroot, length_hsum, length_zsum, zc69, zc66]; done) | (simp [cat, Value.cells, headC, blkC, hk.1, hk.2, length_mroot, length_hsum, length_zsum, zc69, zc66]; omega) | rfl) (by first | with_reducible assumption | (rw [bv_length]; with_reducible assumption) | (rw [List.size_toArray, bv_length]; with_reducible assumption) | (simp [cat, Value.cells, headC, blkC, hk.1, hk.2, length_mroot, length_hsum, length_zsum, zc69, zc66]; done) | (simp [cat, Value.cells, headC, blkC, hk.1, hk.2, length_mroot, length_hsum, length_zsum, zc69, zc66]; omega) | rfl)) rfl))) rfl hS ?_
          refine q_does (d_storeW S 2 rfl rfl (by first | exact bv_one _ | exact sv_one _ | exact iv_one _ | with_reducible assumption | (refine One.mem ?_; repeat (first | exact One.bv _ | exact One.sv _ | exact One.iv _ | exact One.nil | exact One.cat0 | refine One.cat1 ?_ ?_ | refine One.cons rfl ?_ | refine One.append ?_ ?_))) sz69 (by first | with_reducible assumption | (rw [bv_length]; with_reducible assumption) | (rw [List.size_toArray, bv_length]; with_reducible assumption) | (simp [cat, Value.cells, headC, blkC, hk.1, hk.2, length_mroot, length_hsum, length_zsum, zc69, zc66]; done) | (simp [cat, Value.cells, headC, blkC, hk.1, hk.2, length_mroot, length_hsum, length_zsum, zc69, zc66]; omega) | rfl) rfl rfl (by first | with_reducible assumption | (rw [bv_length]; with_reducible assumption) | (rw [List.size_toArray, bv_length]; with_reducible assumption) | (simp [cat, Value.cells, headC, blkC, hk.1, hk.2, length_mroot, length_hsum, length_zsum, zc69, zc66]; done) | (simp [cat, Value.cells, headC, blkC, hk.1, hk.2, length_mroot, length_hsum, length_zsum, zc69, zc66]; omega) | rfl)) rfl ?_
          intro _ w S
          have hS := S.pk [1, 3] rfl
          refine ⟨hS, ?_⟩
          refine q_nil ?_
          refine p_val (e_assign (v := .int _ _) rfl) rfl ?_
          refine p_nil (x_then (s_ret ?_))
          exact postC1 (v := .int _ _) Try.results52 S 2 rfl rfl rfl rfl ag69 sz69 (by first | with_reducible assumption | (rw [bv_length]; with_reducible assumption) | (rw [List.size_toArray, bv_length]; with_reducible assumption) | (simp [cat, Value.cells, headC, blkC, hk.1, hk.2, length_mroot, length_hsum, length_zsum, zc69, zc66]; done) | (simp [cat, Value.cells, headC, blkC, hk.1, hk.2, length_mroot, length_hsum, length_zsum, zc69, zc66]; omega) | rfl) (by have e : mkE h L.n = 0 := (if_neg hp14).trans (if_neg (by omega)); unfold mkH mkX; rw [if_pos e, if_pos e, i1, e]; exact ⟨k33, c33, by simp [headC, blkC, zc69], by simpa using S.pk [0] rfl⟩)
end Go.Proofs.Ytdhfiamgmokfbaa

/- Literal rows of structs, rows of bools. It proves no statement by itself. -/
set_option linter.unusedSimpArgs false
set_option linter.unusedVariables false
namespace Go.Proofs.Ytdhfiamgmokfbaa.E
open Go Go.RowKit
def flatV : List (List Value) → List Value
  | [] => []
  | [x] => x
  | x :: y :: r => x ++ flatV (y :: r)
theorem flatV_eq : ∀ E : List (List Value), flatV E = E.flatten
  | [] => rfl
  | [x] => by simp [flatV]
  | x :: y :: r => by rw [flatV, flatV_eq (y :: r)]; rfl
def bbv (l : List Bool) : List Value := l.map Value.bool
@[simp] theorem bbv_length (l : List Bool) : (bbv l).length = l.length := by simp [bbv]
theorem bbv_one (l : List Bool) : ∀ u ∈ bbv l, u.oneCell' = true := by
  intro u hu
  obtain ⟨x, _, rfl⟩ := List.mem_map.1 hu
  rfl
theorem bbv_get {l : List Bool} {i : Nat} (h : i < l.length) : (bbv l)[i]? = some (.bool (l.getD i false)) := by
  simp [bbv, List.getD_eq_getElem?_getD, h]
theorem bbv_set (l : List Bool) (i : Nat) (x : Bool) : (bbv l).set i (.bool x) = bbv (l.set i x) := by simp [bbv, List.map_set]
theorem iv_setL (l : List Int) (i : Nat) (x : Int) : (iv l).set i (.int .i64 x) = iv (l.set i x) := by simp [iv, List.map_set]
section
variable {P : Program} {ρ : Operand → Value} {d : Option Tmp} {t ty : TypeId} {ps : String} {af : Array Edge} {g : Option (Nat × Bool)} {w w0 : World} {ex : List Nat} {ks : List (Option Nat)} {pp : List (Option Obj → Prop)}
theorem d_litV {e : TypeId} {n size : Nat} {parts : List (Nat × Operand)} {E : List (List Value)} {z : Value} (S : St w0 w ex ks pp) (hu : P.underlying t = some (.slice e)) (hs : Sz P e size) (hz : Zv P e z) (hsz : z.cells.size = size) (hpos : 0 < size)
    (hp : parts.map (fun q => (q.1, ρ q.2)) = (List.range' 0 n).zip (E.map fun l => Value.agg l.toArray)) (hn : E.length = n) (hE : ∀ l ∈ E, l.length = size) (hlim : n * size ≤ 16777216) :
    Does P ρ { dst := d, op := .buildSlice t n parts.toArray, type := ty, pos := ps, after := af, guard := g } w
      fun v w' => ∃ b, v = .slice (at_ (some b)) n n ∧ St w0 w' ex (some b :: ks) (Rw e size n n (flatV E) :: pp) := by
  have h := d_lit (P := P) (ρ := ρ) (d := d) (ty := ty) (ps := ps) (af := af) (g := g) S hu hs hz hsz hpos hp (by simpa using hn) (fun v h => by
    obtain ⟨l, hl, rfl⟩ := List.mem_map.1 h
    simp [Value.cells, hE l hl]) hlim
  have e1 : (E.map fun l => Value.agg l.toArray).flatMap (fun v => v.cells.toList) = flatV E := by
    rw [flatV_eq]
    clear hp hn hE h
    induction E with
    | nil => rfl
    | cons a E ih => rw [List.map_cons, List.flatMap_cons, ih, List.flatten_cons]; rfl
  rwa [e1] at h
end
end Go.Proofs.Ytdhfiamgmokfbaa.E

/- Chapter 19's example. It proves no statement by itself. -/
set_option linter.unusedSimpArgs false
set_option linter.unusedVariables false
set_option maxRecDepth 100000
set_option maxHeartbeats 1000000
namespace Go.Proofs.Ytdhfiamgmokfbaa
open Go Go.RowKit E
attribute [local irreducible] wpList seqH treeH
def tx0 : TxV := ⟨⟨none, 0, 0, []⟩, ⟨none, 0, 0, []⟩, 0, 0, 0, 0, zsum, ⟨none, 0, 0, []⟩, none, 0, 0⟩
theorem Slr.nil {α : Type} {w : World} {bs : List Nat} {s : Nat} {c : α → List Value} {ok : α → Prop} : Slr w bs s c ok ⟨none, 0, 0, []⟩ :=
  ⟨rfl, Nat.le_refl _, (fun y h => by cases h), Rd.nil _ _ _, Off.none_⟩
theorem tx0_ok (w : World) (bs : List Nat) : TxOk w bs tx0 := ⟨Slr.nil, Slr.nil, length_zsum, Slr.nil⟩
theorem tx0_sm : TxSm tx0 := ⟨by decide, by decide, by decide, by decide, (fun y h => by cases h), (fun y h => by cases h), (fun y h => by cases h)⟩
def tl0 : Sl TxV := ⟨none, 0, 0, []⟩
theorem mkE_no {h : HeadV} {n : Nat} (e : mkE h n = 0) : ¬ (h.height < 0 ∨ 1073741824 ≤ h.height) ∧ ¬ 64 < n := by
  unfold mkE at e
  split at e
  · cases e
  · split at e
    · cases e
    · exact ⟨by assumption, by assumption⟩
abbrev mkL (h : HeadV) (L : Sl TxV) (k : Option Nat) (c : Nat) : Sl TxV := ⟨at_ k, (mkX h L).length, c, mkX h L⟩
theorem mkH_ok (h : HeadV) (L : Sl TxV) : (mkH h L).ok := by
  unfold mkH; split
  · exact ⟨length_hsum _, length_mroot _⟩
  · exact head0_ok
theorem mkX_mem {h : HeadV} {L : Sl TxV} {x : TxV} (hx : x ∈ mkX h L) : x ∈ L.xs := by
  unfold mkX at hx; split at hx
  · exact hx
  · cases hx
theorem mkX_len {h : HeadV} {L : Sl TxV} (hL : L.xs.length = L.n) : (mkX h L).length ≤ L.n := by
  unfold mkX; split
  · exact Nat.le_of_eq hL
  · exact Nat.zero_le _
theorem mkX_ok {w : World} {h : HeadV} {L : Sl TxV} {k : Option Nat} {c : Nat} (hL : TxsOk w [] L) (R : Rd w 40 (at_ k) (mkX h L).length ((mkX h L).flatMap txV)) (hc : (mkX h L).length ≤ c) : TxsOk w [] (mkL h L k c) :=
  ⟨rfl, hc, fun x hx => hL.2.2.1 x (mkX_mem hx), R, Off.nil⟩
theorem mk_bright {h : HeadV} {L : Sl TxV} {k : Option Nat} {c : Nat} (hL : L.xs.length = L.n) (e : mkE h L.n = 0) : bright (mkH h L) (mkL h L k c) := by
  have h1 := mkE_no e
  have e2 : mkX h L = L.xs := if_pos e
  unfold bright mkH mkL
  rw [if_pos e]
  simp only [e2, hL]
  refine ⟨trivial, ?_, ?_, ?_, trivial⟩ <;> omega
theorem l19awake (w0 : World) :
    Ret Try.prog 49 [] w0 fun v w' => v = .bool true ∧ Below w0.heap.size w0 w' := by
  refine enter Try.func49 rfl Try.ntmps49 (Nat.le_of_ble_eq_true rfl) ?_
  have S := St.init w0
  refine s_seq (s_plain ?_)
  refine p_val (e_assign (v := .bool _) rfl) rfl ?_
  refine p_nil (x_then (s_seq (s_plain ?_)))
  refine p_val (e_buildS0 bt66) rfl ?_
  refine p_does (d_call Try.func52 nm52 rfl rfl (bk_make _ head0 head0_ok tl0 Slr.nil (by decide) (fun x h => by cases h))) rfl ?_
  rintro _ w ⟨k5, c5, rfl, T⟩
  have S := S.merge T rfl
  refine p_val (e_move (v := .tuple _) rfl) rfl ?_
  refine p_val (e_extract rfl rfl) rfl ?_
  refine p_val (e_extract rfl rfl) rfl ?_
  refine p_does (d_allocA S zs69) rfl ?_
  rintro _ w ⟨b1, rfl, S⟩
  refine p_does (d_storeW S 0 rfl rfl (by first | exact bv_one _ | exact sv_one _ | exact iv_one _ | with_reducible assumption | (refine One.mem ?_; repeat (first | exact One.bv _ | exact One.sv _ | exact One.iv _ | exact One.nil | exact One.cat0 | refine One.cat1 ?_ ?_ | refine One.cons rfl ?_ | refine One.append ?_ ?_))) sz69 (by first | with_reducible assumption | (rw [bv_length]; with_reducible assumption) | (rw [List.size_toArray, bv_length]; with_reducible assumption) | (simp [cat, Value.cells, blkC, (mkH_ok head0 tl0).1, (mkH_ok head0 tl0).2, length_zsum, zc69, zc66, zc87]; done) | (simp [cat, Value.cells, blkC, (mkH_ok head0 tl0).1, (mkH_ok head0 tl0).2, length_zsum, zc69, zc66, zc87]; omega) | rfl) rfl rfl (by first | with_reducible assumption | (rw [bv_length]; with_reducible assumption) | (rw [List.size_toArray, bv_length]; with_reducible assumption) | (simp [cat, Value.cells, blkC, (mkH_ok head0 tl0).1, (mkH_ok head0 tl0).2, length_zsum, zc69, zc66, zc87]; done) | (simp [cat, Value.cells, blkC, (mkH_ok head0 tl0).1, (mkH_ok head0 tl0).2, length_zsum, zc69, zc66, zc87]; omega) | rfl)) rfl ?_
  intro _ w S
  refine p_val (e_assign (v := .int _ _) rfl) rfl ?_
  refine p_nil (x_then (s_seq ?_))
  refine s_cutK (ks := [some b1, k5]) (ps := [Ex _ _, Rw _ _ _ _ _]) [] trivial S (fun keep ks ps f' w' => ∃ u bb, f' = upds u ((0, .bool bb) :: keep) ∧ (bb = true ↔ True) ∧ St w0 w' [] ks ps) ?_ ?_
  · refine s_plain ?_
    refine p_val (e_move (v := .int _ _) rfl) rfl ?_
    refine p_valB (e_eql rfl rfl) rfl (fun hg9 => ?_) (fun hg9 => ?_)
    · refine p_val (e_move (v := .bool _) rfl) rfl ?_
      refine pg_val rfl rfl rfl rfl rfl (e_loadW 0 rfl ag69 sz69 S rfl rfl (by first | with_reducible assumption | (rw [bv_length]; with_reducible assumption) | (rw [List.size_toArray, bv_length]; with_reducible assumption) | (simp [cat, Value.cells, blkC, (mkH_ok head0 tl0).1, (mkH_ok head0 tl0).2, length_zsum, zc69, zc66, zc87]; done) | (simp [cat, Value.cells, blkC, (mkH_ok head0 tl0).1, (mkH_ok head0 tl0).2, length_zsum, zc69, zc66, zc87]; omega) | rfl)) ?_
      refine pg_does rfl rfl rfl rfl rfl (d_call Try.func51 nm51 rfl rfl (bb_right _ (mkH head0 tl0) (mkH_ok _ _) (mkL head0 tl0 k5 c5) (mkX_ok Slr.nil (S.rdRw 1 rfl rfl) (S.capRw 1 rfl rfl)) (Nat.le_trans (mkX_len rfl) (by decide)) (fun x (hx : x ∈ mkX head0 tl0) => (List.not_mem_nil (mkX_mem hx)).elim))) ?_
      rintro _ w ⟨rfl, hB⟩
      have S := S.below hB
      rcases Classical.em (bright (mkH head0 tl0) (mkL head0 tl0 k5 c5)) with hg12 | hg12
      · rw [decide_eq_true hg12]
        refine p_val (e_pick_t rfl rfl) rfl ?_
        refine p_val (e_move (v := .bool _) rfl) rfl ?_
        refine pg_val rfl rfl rfl rfl rfl (e_field rfl Try.underlying69 rfl sz66 (by decide)) ?_
        refine pg_val rfl rfl rfl rfl rfl (e_field rfl Try.underlying66 rfl sz3 (by decide)) ?_
        refine pg_val rfl rfl rfl rfl rfl (e_loadF1 (i := 1) (off := 32) rfl ag3 S (j := 0) rfl rfl rfl (by first | with_reducible assumption | (rw [bv_length]; with_reducible assumption) | (rw [List.size_toArray, bv_length]; with_reducible assumption) | (simp [cat, Value.cells, blkC, (mkH_ok head0 tl0).1, (mkH_ok head0 tl0).2, length_zsum, zc69, zc66, zc87]; done) | (simp [cat, Value.cells, blkC, (mkH_ok head0 tl0).1, (mkH_ok head0 tl0).2, length_zsum, zc69, zc66, zc87]; omega) | rfl)) ?_
        refine pg_valB rfl rfl rfl rfl rfl (e_eql rfl rfl) (fun hg18 => ?_) (fun hg18 => ?_)
        · refine p_val (e_pick_t rfl rfl) rfl ?_
          refine p_val (e_move (v := .bool _) rfl) rfl ?_
          refine pg_val rfl rfl rfl rfl rfl (e_buildS0 bt87) ?_
          refine pg_does rfl rfl rfl rfl rfl (d_litV S Try.underlying67 sz87 zv87 rfl (by decide) (E := [_]) rfl rfl (by intro l hl; simp at hl; rw [hl]; first | rfl | (simp [cat, Value.cells, blkC, (mkH_ok head0 tl0).1, (mkH_ok head0 tl0).2, length_zsum, zc69, zc66, zc87]; done)) (by decide)) ?_
          rintro _ w ⟨b22, rfl, S⟩
          refine pg_val rfl rfl rfl rfl rfl (e_buildS bt69 (Eq.trans (fill_cat (v := .slice _ _ _) (l' := [[_]]) 4 1 rfl (rfl) (by first | with_reducible assumption | (rw [bv_length]; with_reducible assumption) | (rw [List.size_toArray, bv_length]; with_reducible assumption) | (simp [cat, Value.cells, blkC, (mkH_ok head0 tl0).1, (mkH_ok head0 tl0).2, length_zsum, zc69, zc66, zc87]; done) | (simp [cat, Value.cells, blkC, (mkH_ok head0 tl0).1, (mkH_ok head0 tl0).2, length_zsum, zc69, zc66, zc87]; omega) | rfl) (by first | with_reducible assumption | (rw [bv_length]; with_reducible assumption) | (rw [List.size_toArray, bv_length]; with_reducible assumption) | (simp [cat, Value.cells, blkC, (mkH_ok head0 tl0).1, (mkH_ok head0 tl0).2, length_zsum, zc69, zc66, zc87]; done) | (simp [cat, Value.cells, blkC, (mkH_ok head0 tl0).1, (mkH_ok head0 tl0).2, length_zsum, zc69, zc66, zc87]; omega) | rfl) (by first | with_reducible assumption | (rw [bv_length]; with_reducible assumption) | (rw [List.size_toArray, bv_length]; with_reducible assumption) | (simp [cat, Value.cells, blkC, (mkH_ok head0 tl0).1, (mkH_ok head0 tl0).2, length_zsum, zc69, zc66, zc87]; done) | (simp [cat, Value.cells, blkC, (mkH_ok head0 tl0).1, (mkH_ok head0 tl0).2, length_zsum, zc69, zc66, zc87]; omega) | rfl)) rfl)) ?_
          refine pg_does rfl rfl rfl rfl rfl (d_call Try.func51 nm51 rfl rfl (bb_right _ head0 head0_ok ⟨some ⟨b22, 0, none⟩, 1, 1, [tx0]⟩ ⟨rfl, Nat.le_refl 1, (fun x hx => by rw [List.mem_singleton.1 hx]; exact tx0_ok _ _), (S.rdRw 0 rfl rfl), Off.nil⟩ (show 1 ≤ 1000 by decide) (fun x hx => by rw [List.mem_singleton.1 hx]; exact tx0_sm))) ?_
          rintro _ w ⟨rfl, hB⟩
          have S := S.below hB
          rcases Classical.em (bright head0 ⟨some ⟨b22, 0, none⟩, 1, 1, [tx0]⟩) with hg24 | hg24
          · exact False.elim (absurd hg24.1 (by show ¬ (0 : Int) = ((1 : Nat) : Int); decide))
          · rw [decide_eq_false hg24]
            refine pg_val rfl rfl rfl rfl rfl (e_not rfl) ?_
            refine p_val (e_pick_t rfl rfl) rfl ?_
            refine p_val (e_move (v := .bool _) rfl) rfl ?_
            refine p_val (e_pick_t rfl rfl) rfl ?_
            refine p_val (e_assign (v := .bool _) rfl) rfl ?_
            exact p_nil (x_then ⟨_, rfl, _, _, upds_eq ⟨rfl, trivial⟩, by first | (simp only [decide_eq_true_eq, eq_self, true_iff, iff_true, iff_false, Bool.false_eq_true, false_iff, ge_iff_le, gt_iff_lt, true_and, and_true, false_and, and_false, true_or, or_true, false_or, or_false, not_true_eq_false, not_false_eq_true]; omega) | (simp; done) | omega | (simp_all; done), S.pk [1, 2] rfl⟩)
        · exact False.elim (hg18 (by unfold mkH; rw [if_pos hg9]; rfl))
      · exact False.elim (hg12 (mk_bright rfl rfl))
    · exact False.elim (hg9 rfl)
  · rintro f w ⟨u, b0, rfl, hb0, S⟩
    refine x_then (s_ret ?_)
    exact post1 (v := .bool _) Try.results49 rfl (by rw [hb0.2 trivial]; exact ⟨rfl, S.to_below⟩)
end Go.Proofs.Ytdhfiamgmokfbaa
