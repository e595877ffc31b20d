/- What is checked by a path, walked. It proves no statement by itself. -/
import Derived.Test.YtdhfiamgmokfbaaMer2
set_option linter.unusedSimpArgs false
set_option linter.unusedVariables false
set_option maxRecDepth 100000
set_option maxHeartbeats 1000000
namespace Go.Proofs.Ytdhfiamgmokfbaa
open Go Go.RowKit E
attribute [local irreducible] wpList seqH treeH
def climbC (now : List Nat) (b n : Nat) (P : List (List Nat)) : Option (List Nat) :=
  if h : n ≤ 1 then (match P with | [] => some now | _ :: _ => none)
  else if sidx b < n then (match P with | [] => none | p :: P' => climbC (if b % 2 = 0 then mpair now p else mpair p now) (b / 2) ((n + 1) / 2) P')
  else climbC now (b / 2) ((n + 1) / 2) P
termination_by n
theorem climbC_end {now : List Nat} {b n : Nat} {P : List (List Nat)} (h : n ≤ 1) : climbC now b n P = (match P with | [] => some now | _ :: _ => none) := by rw [climbC.eq_def, dif_pos h]
theorem climbC_nil {now : List Nat} {b n : Nat} (h : ¬ n ≤ 1) (hs : sidx b < n) : climbC now b n [] = none := by rw [climbC.eq_def, dif_neg h, if_pos hs]
theorem climbC_cons {now p : List Nat} {b n : Nat} {P : List (List Nat)} (h : ¬ n ≤ 1) (hs : sidx b < n) : climbC now b n (p :: P) = climbC (if b % 2 = 0 then mpair now p else mpair p now) (b / 2) ((n + 1) / 2) P := by rw [climbC.eq_def, dif_neg h, if_pos hs]
theorem climbC_no {now : List Nat} {b n : Nat} {P : List (List Nat)} (h : ¬ n ≤ 1) (hs : ¬ sidx b < n) : climbC now b n P = climbC now (b / 2) ((n + 1) / 2) P := by rw [climbC.eq_def, dif_neg h, if_neg hs]
def mcheck (r s : List Nat) (a m : Int) (P : List (List Nat)) : Prop := 0 ≤ a ∧ a < m ∧ m ≤ 4096 ∧ climbC (mleaf s) a.toNat m.toNat P = some r
instance (r s : List Nat) (a m : Int) (P : List (List Nat)) : Decidable (mcheck r s a m P) := by unfold mcheck; infer_instance
theorem mk_check (w0 : World) (r s : List Nat) (a m : Int) (A : Option Addr) (c : Nat) (P : List (List Nat)) (hr : r.length = 32) (hs : s.length = 32) (R : Rd w0 32 A P.length (sv P)) (hP0 : All32 P) (cR : P.length ≤ c) :
    Ret Try.prog 38 [.agg (bv r).toArray, .agg (bv s).toArray, .int .i64 a, .int .i64 m, .slice A P.length c] w0 fun v w' => v = .bool (decide (mcheck r s a m P)) ∧ Below w0.heap.size w0 w' := by
  refine enter Try.func38 rfl Try.ntmps38 (Nat.le_of_ble_eq_true rfl) ?_
  have S := St.init w0
  refine s_seq (s_plain ?_)
  refine p_does (d_boxA S rfl) rfl ?_
  rintro _ w ⟨b5, rfl, S⟩
  refine p_does (d_boxA S rfl) rfl ?_
  rintro _ w ⟨b6, rfl, S⟩
  refine p_val (e_assign (v := .bool _) rfl) rfl ?_
  refine p_nil (x_then (s_seq (s_seq ?_)))
  refine s_cutK (ks := [some b6, some b5]) (ps := [Ex _ _, Ex _ _]) [(2, .int _ _), (3, .int _ _), (4, .slice _ _ _), (5, .pointer _), (6, .pointer _)] ⟨rfl, rfl, rfl, rfl, rfl, trivial⟩ S (fun keep ks ps f' w' => ∃ u bb, f' = upds u ((22, .bool bb) :: keep) ∧ (bb = true ↔ (((a < (0 : Int)) ∨ (m ≤ a)) ∨ ((4096 : Int) < m))) ∧ St w0 w' [] ks ps) ?_ ?_
  · refine s_plain ?_
    refine p_val (e_move (v := .int _ _) rfl) rfl ?_
    refine p_valB (e_lss rfl rfl) rfl (fun hg13 => ?_) (fun hg13 => ?_)
    · refine p_val (e_move (v := .bool _) rfl) rfl ?_
      refine p_no rfl rfl rfl rfl rfl ?_
      refine p_no rfl rfl rfl rfl rfl ?_
      refine p_no rfl rfl rfl rfl rfl ?_
      refine p_val (e_pick_t rfl rfl) rfl ?_
      refine p_val (e_move (v := .bool _) rfl) rfl ?_
      refine p_no rfl rfl rfl rfl rfl ?_
      refine p_no rfl rfl rfl rfl rfl ?_
      refine p_val (e_pick_t rfl rfl) rfl ?_
      exact p_nil (x_then ⟨_, rfl, _, _, upds_eq ⟨rfl, rfl, rfl, rfl, rfl, rfl, trivial⟩, by first | (simp only [decide_eq_true_eq, eq_self, true_iff, iff_true, iff_false, Bool.false_eq_true, false_iff, ge_iff_le, gt_iff_lt, true_and, and_true, false_and, and_false, true_or, or_true, false_or, or_false, not_true_eq_false, not_false_eq_true]; omega) | simp | omega | simp_all, S⟩)
    · refine p_val (e_move (v := .bool _) rfl) rfl ?_
      refine pg_val rfl rfl rfl rfl rfl (e_move (v := .int _ _) rfl) ?_
      refine pg_val rfl rfl rfl rfl rfl (e_move (v := .int _ _) rfl) ?_
      refine pg_valB rfl rfl rfl rfl rfl (e_geq rfl rfl) (fun hg17 => ?_) (fun hg17 => ?_)
      · refine p_val (e_pick_f rfl rfl) rfl ?_
        refine p_val (e_move (v := .bool _) rfl) rfl ?_
        refine p_no rfl rfl rfl rfl rfl ?_
        refine p_no rfl rfl rfl rfl rfl ?_
        refine p_val (e_pick_t rfl rfl) rfl ?_
        exact p_nil (x_then ⟨_, rfl, _, _, upds_eq ⟨rfl, rfl, rfl, rfl, rfl, rfl, trivial⟩, by first | (simp only [decide_eq_true_eq, eq_self, true_iff, iff_true, iff_false, Bool.false_eq_true, false_iff, ge_iff_le, gt_iff_lt, true_and, and_true, false_and, and_false, true_or, or_true, false_or, or_false, not_true_eq_false, not_false_eq_true]; omega) | simp | omega | simp_all, S⟩)
      · refine p_val (e_pick_f rfl rfl) rfl ?_
        refine p_val (e_move (v := .bool _) rfl) rfl ?_
        refine pg_val rfl rfl rfl rfl rfl (e_move (v := .int _ _) rfl) ?_
        refine pg_val rfl rfl rfl rfl rfl (e_gtr rfl rfl) ?_
        refine p_val (e_pick_f rfl rfl) rfl ?_
        exact p_nil (x_then ⟨_, rfl, _, _, upds_eq ⟨rfl, rfl, rfl, rfl, rfl, rfl, trivial⟩, by first | (simp only [decide_eq_true_eq, eq_self, true_iff, iff_true, iff_false, Bool.false_eq_true, false_iff, ge_iff_le, gt_iff_lt, true_and, and_true, false_and, and_false, true_or, or_true, false_or, or_false, not_true_eq_false, not_false_eq_true]; omega) | simp | omega | simp_all, S⟩)
  · rintro f w ⟨u, b22, rfl, hb22, S⟩
    refine x_then ?_
    refine s_condb rfl (fun hc22 => ?_) (fun hc22 => ?_)
    · have hp22 : (((a < (0 : Int)) ∨ (m ≤ a)) ∨ ((4096 : Int) < m)) := hb22.1 hc22
      refine s_seq (s_plain ?_)
      refine p_val (e_assign (v := .bool _) rfl) rfl ?_
      refine p_nil (x_then (s_ret (x_then_ret ?_)))
      exact post1 (v := .bool _) Try.results38 rfl (⟨by rw [decide_eq_false (fun h => by have h1 := h.1; have h2 := h.2.1; have h3 := h.2.2.1; omega)], S.to_below⟩)
    · have hp22 : ¬ (((a < (0 : Int)) ∨ (m ≤ a)) ∨ ((4096 : Int) < m)) := fun h => by rw [hb22.2 h] at hc22; cases hc22
      refine s_skip (x_then (s_seq (s_plain ?_)))
      refine p_val (e_loadW 0 rfl ag29 sz29 S rfl rfl (by first | with_reducible assumption | (rw [bv_length]; with_reducible assumption) | (rw [List.size_toArray, bv_length]; with_reducible assumption) | (simp [cat, length_join, length_mleaf, length_mpair, hr, hs]; done) | (simp [cat, length_join, length_mleaf, length_mpair, hr, hs]; omega) | rfl)) rfl ?_
      refine p_does (d_call Try.func44 nm44 rfl rfl (mk_leaf _ _ (by first | with_reducible assumption | (rw [bv_length]; with_reducible assumption) | (rw [List.size_toArray, bv_length]; with_reducible assumption) | (simp [cat, length_join, length_mleaf, length_mpair, hr, hs]; done) | (simp [cat, length_join, length_mleaf, length_mpair, hr, hs]; omega) | rfl))) rfl ?_
      rintro _ w ⟨rfl, hB⟩
      have S := S.below hB
      refine p_does (d_allocA S zvS) rfl ?_
      rintro _ w ⟨b11, rfl, S⟩
      refine p_does (d_storeW S 0 rfl rfl (by first | exact bv_one _ | exact sv_one _ | exact iv_one _ | with_reducible assumption | (refine One.mem ?_; repeat (first | exact One.bv _ | exact One.sv _ | exact One.iv _ | exact One.nil | exact One.cat0 | refine One.cat1 ?_ ?_ | refine One.cons rfl ?_ | refine One.append ?_ ?_))) sz29 (by first | with_reducible assumption | (rw [bv_length]; with_reducible assumption) | (rw [List.size_toArray, bv_length]; with_reducible assumption) | (simp [cat, length_join, length_mleaf, length_mpair, hr, hs]; done) | (simp [cat, length_join, length_mleaf, length_mpair, hr, hs]; omega) | rfl) rfl rfl (by first | with_reducible assumption | (rw [bv_length]; with_reducible assumption) | (rw [List.size_toArray, bv_length]; with_reducible assumption) | (simp [cat, length_join, length_mleaf, length_mpair, hr, hs]; done) | (simp [cat, length_join, length_mleaf, length_mpair, hr, hs]; omega) | rfl)) rfl ?_
      intro _ w S
      refine p_nil (x_then (s_seq (s_block ?_)))
      obtain ⟨a0, rfl⟩ : ∃ b0 : Nat, a = (b0 : Int) := ⟨a.toNat, by omega⟩
      obtain ⟨m0, rfl⟩ : ∃ b0 : Nat, m = (b0 : Int) := ⟨m.toNat, by omega⟩
      refine s_loopK (α := Nat) (ks := [some b11, some b6, some b5]) (ps := [Ex _ _, Ex _ _, Ex _ _]) [(5, .pointer _), (11, .pointer _)] ⟨rfl, rfl, trivial⟩ S (fun keep ks ps n f' w' => ∃ u b A1 c1 P1 now, f' = upds u ((2, .int .i64 ((b : Nat) : Int)) :: (3, .int .i64 (n : Int)) :: (4, .slice A1 (List.length P1) c1) :: keep) ∧ (now.length = 32) ∧ (b < n) ∧ (n ≤ 4096) ∧ (Rd w0 32 A1 P1.length (sv P1)) ∧ (All32 P1) ∧ (P1.length ≤ c1) ∧ (climbC now b n P1 = climbC (mleaf s) a0 m0 P) ∧ St w0 w' [] [some b11, some b6, some b5] [Ex (bv now).toArray 29, (ps.getD 1 fun _ => True), (ps.getD 2 fun _ => True)]) (fun n => n) (m0) (⟨_, _, _, _, _, _, upds_eq ⟨rfl, rfl, rfl, rfl, rfl, trivial⟩, length_mleaf s, by first | omega | rfl | with_reducible assumption | (simp; done) | (simp; omega), by first | omega | rfl | with_reducible assumption | (simp; done) | (simp; omega), R, hP0, by first | omega | rfl | with_reducible assumption | (simp; done) | (simp; omega), by first | omega | rfl | with_reducible assumption | (simp; done) | (simp; omega), S⟩) ?_
      rintro n f w ⟨u, b, A1, c1, P1, now, rfl, hnl, hb, hn, R1, hP, cR1, hc, S⟩
      refine s_seq (s_seq (s_plain ?_))
      refine p_val (e_move (v := .int _ _) rfl) rfl ?_
      refine p_val (e_gtr rfl rfl) rfl ?_
      refine p_nil (x_then ?_)
      refine s_cond rfl (fun hc26 => ?_) (fun hc26 => ?_)
      · refine s_skip (x_then (s_block (s_seq ?_)))
        refine s_cutK (ks := [some b11, some b6, some b5]) (ps := [Ex _ _, Ex _ _, Ex _ _]) [(2, .int _ _), (3, .int _ _), (5, .pointer _), (11, .pointer _)] ⟨rfl, rfl, rfl, rfl, trivial⟩ S (fun keep ks ps f' w' => ∃ u A2 c2 P2 now2, f' = upds u ((4, .slice A2 (List.length P2) c2) :: keep) ∧ (now2.length = 32) ∧ (Rd w0 32 A2 P2.length (sv P2)) ∧ (All32 P2) ∧ (P2.length ≤ c2) ∧ (climbC now2 (b / 2) ((n + 1) / 2) P2 = climbC now b n P1) ∧ St w0 w' [] [some b11, some b6, some b5] [Ex (bv now2).toArray 29, (ps.getD 1 fun _ => True), (ps.getD 2 fun _ => True)]) ?_ ?_
        · refine s_seq (s_plain ?_)
          refine p_val (e_move (v := .int _ _) rfl) rfl ?_
          refine p_val (e_xor1 rfl rfl (by omega)) rfl ?_
          rw [xor1_sidx]
          refine p_val (e_move (v := .int _ _) rfl) rfl ?_
          refine p_val (e_lss rfl rfl) rfl ?_
          refine p_nil (x_then ?_)
          refine s_cond rfl (fun hc30 => ?_) (fun hc30 => ?_)
          · refine s_seq (s_seq (s_plain ?_))
            refine p_val (e_move (v := .slice _ _ _) rfl) rfl ?_
            refine p_val (e_len rfl Try.underlying24) rfl ?_
            refine p_val (e_eql rfl rfl) rfl ?_
            refine p_nil (x_then ?_)
            refine s_cond rfl (fun hc33 => ?_) (fun hc33 => ?_)
            · have e0 : P1 = [] := List.eq_nil_of_length_eq_zero (by omega)
              refine s_seq (s_plain ?_)
              refine p_val (e_assign (v := .bool _) rfl) rfl ?_
              refine p_nil (x_then (s_ret (x_then_ret (x_then_ret (x_then_ret (x_in_ret (x_then_ret (x_in_ret (x_then_ret ?_)))))))))
              exact post1 (v := .bool _) Try.results38 rfl (⟨by rw [decide_eq_false (fun h => by have h4 := h.2.2.2; rw [Int.toNat_natCast, Int.toNat_natCast, ← hc, e0, climbC_nil (by omega) (by omega)] at h4; cases h4)], S.to_below⟩)
            · obtain ⟨p, P3, rfl⟩ : ∃ p P3, P1 = p :: P3 := by cases P1 with | nil => exact absurd rfl hc33 | cons p P3 => exact ⟨p, P3, rfl⟩
              have hp32 : p.length = 32 := hP p (by simp)
              refine s_skip (x_then (s_seq ?_))
              refine s_cutK (ks := [some b11, some b6, some b5]) (ps := [Ex _ _, Ex _ _, Ex _ _]) [(2, .int _ _), (3, .int _ _), (4, .slice _ _ _), (5, .pointer _), (11, .pointer _)] ⟨rfl, rfl, rfl, rfl, rfl, trivial⟩ S (fun keep ks ps f' w' => ∃ u now3, f' = upds u (keep) ∧ (now3.length = 32) ∧ (now3 = if b % 2 = 0 then mpair now p else mpair p now) ∧ St w0 w' [] [some b11, some b6, some b5] [Ex (bv now3).toArray 29, (ps.getD 1 fun _ => True), (ps.getD 2 fun _ => True)]) ?_ ?_
              · refine s_seq (s_plain ?_)
                refine p_val (e_move (v := .int _ _) rfl) rfl ?_
                refine p_val (e_rem64 rfl rfl (by omega)) rfl ?_
                refine p_val (e_eql rfl rfl) rfl ?_
                refine p_nil (x_then ?_)
                refine s_cond rfl (fun hc36 => ?_) (fun hc36 => ?_)
                · refine s_drawK (ks := [some b11, some b6, some b5]) (ps := [Ex _ _, Ex _ _, Ex _ _]) S [(true, 0), (true, 1), (true, 2), (true, 3), (false, 4)] [5] [5] mixed (by kernel_rfl) (by repeat (first | exact Calm.post _ _ _ | refine Calm.then ?_ _ | refine Calm.inB ?_ _)) (fun hS => ?_)
                  have S := S.drew
                  refine q_val (fun w hS => e_loadW 0 rfl ag29 sz29 hS rfl rfl (by first | with_reducible assumption | (rw [bv_length]; with_reducible assumption) | (rw [List.size_toArray, bv_length]; with_reducible assumption) | (simp [cat, length_join, length_mleaf, length_mpair, hr, hs]; done) | (simp [cat, length_join, length_mleaf, length_mpair, hr, hs]; omega) | rfl)) rfl hS ?_
                  refine q_val (fun w hS => e_move (v := .slice _ _ _) rfl) rfl hS ?_
                  refine q_val (fun w hS => e_ixR (hS.rdOld R1 rfl) (by decide) rfl rfl Try.underlying24 sz29 (⟨by omega, by simp⟩)) rfl hS ?_
                  refine q_val (fun w hS => e_loadRA rfl ag29 sz29 (by decide) (Rd.sumA (hS.rdOld R1 rfl) (by with_reducible assumption) (⟨by omega, by simp⟩))) rfl hS ?_
                  refine q_does (d_call Try.func85 nm85 rfl rfl (pair_calls _ 2 now p (by first | with_reducible assumption | (rw [bv_length]; with_reducible assumption) | (rw [List.size_toArray, bv_length]; with_reducible assumption) | (simp [cat, length_join, length_mleaf, length_mpair, hr, hs]; done) | (simp [cat, length_join, length_mleaf, length_mpair, hr, hs]; omega) | rfl) hp32)) rfl ?_
                  rintro _ w ⟨rfl, hB⟩
                  have S := S.below hB
                  have hS := S.pk [0, 1, 2] rfl
                  refine ⟨hS, ?_⟩
                  refine q_nil ?_
                  refine p_does (d_storeW S 0 rfl rfl (by first | exact bv_one _ | exact sv_one _ | exact iv_one _ | with_reducible assumption | (refine One.mem ?_; repeat (first | exact One.bv _ | exact One.sv _ | exact One.iv _ | exact One.nil | exact One.cat0 | refine One.cat1 ?_ ?_ | refine One.cons rfl ?_ | refine One.append ?_ ?_))) sz29 (by first | with_reducible assumption | (rw [bv_length]; with_reducible assumption) | (rw [List.size_toArray, bv_length]; with_reducible assumption) | (simp [cat, length_join, length_mleaf, length_mpair, hr, hs]; done) | (simp [cat, length_join, length_mleaf, length_mpair, hr, hs]; omega) | rfl) rfl rfl (by first | with_reducible assumption | (rw [bv_length]; with_reducible assumption) | (rw [List.size_toArray, bv_length]; with_reducible assumption) | (simp [cat, length_join, length_mleaf, length_mpair, hr, hs]; done) | (simp [cat, length_join, length_mleaf, length_mpair, hr, hs]; omega) | rfl)) rfl ?_
                  intro _ w S
                  refine p_nil ?_
                  exact x_then ⟨_, rfl, _, _, upds_eq ⟨rfl, rfl, rfl, rfl, rfl, trivial⟩, length_join _ _, by rw [if_pos (by omega)]; rfl, S⟩
                · refine s_drawK (ks := [some b11, some b6, some b5]) (ps := [Ex _ _, Ex _ _, Ex _ _]) S [(true, 0), (true, 1), (true, 2), (true, 3), (false, 4)] [5] [5] mixed (by kernel_rfl) (by repeat (first | exact Calm.post _ _ _ | refine Calm.then ?_ _ | refine Calm.inB ?_ _)) (fun hS => ?_)
                  have S := S.drew
                  refine q_val (fun w hS => e_move (v := .slice _ _ _) rfl) rfl hS ?_
                  refine q_val (fun w hS => e_ixR (hS.rdOld R1 rfl) (by decide) rfl rfl Try.underlying24 sz29 (⟨by omega, by simp⟩)) rfl hS ?_
                  refine q_val (fun w hS => e_loadRA rfl ag29 sz29 (by decide) (Rd.sumA (hS.rdOld R1 rfl) (by with_reducible assumption) (⟨by omega, by simp⟩))) rfl hS ?_
                  refine q_val (fun w hS => e_loadW 0 rfl ag29 sz29 hS rfl rfl (by first | with_reducible assumption | (rw [bv_length]; with_reducible assumption) | (rw [List.size_toArray, bv_length]; with_reducible assumption) | (simp [cat, length_join, length_mleaf, length_mpair, hr, hs]; done) | (simp [cat, length_join, length_mleaf, length_mpair, hr, hs]; omega) | rfl)) rfl hS ?_
                  refine q_does (d_call Try.func85 nm85 rfl rfl (pair_calls _ 2 p now hp32 (by first | with_reducible assumption | (rw [bv_length]; with_reducible assumption) | (rw [List.size_toArray, bv_length]; with_reducible assumption) | (simp [cat, length_join, length_mleaf, length_mpair, hr, hs]; done) | (simp [cat, length_join, length_mleaf, length_mpair, hr, hs]; omega) | rfl))) rfl ?_
                  rintro _ w ⟨rfl, hB⟩
                  have S := S.below hB
                  have hS := S.pk [0, 1, 2] rfl
                  refine ⟨hS, ?_⟩
                  refine q_nil ?_
                  refine p_does (d_storeW S 0 rfl rfl (by first | exact bv_one _ | exact sv_one _ | exact iv_one _ | with_reducible assumption | (refine One.mem ?_; repeat (first | exact One.bv _ | exact One.sv _ | exact One.iv _ | exact One.nil | exact One.cat0 | refine One.cat1 ?_ ?_ | refine One.cons rfl ?_ | refine One.append ?_ ?_))) sz29 (by first | with_reducible assumption | (rw [bv_length]; with_reducible assumption) | (rw [List.size_toArray, bv_length]; with_reducible assumption) | (simp [cat, length_join, length_mleaf, length_mpair, hr, hs]; done) | (simp [cat, length_join, length_mleaf, length_mpair, hr, hs]; omega) | rfl) rfl rfl (by first | with_reducible assumption | (rw [bv_length]; with_reducible assumption) | (rw [List.size_toArray, bv_length]; with_reducible assumption) | (simp [cat, length_join, length_mleaf, length_mpair, hr, hs]; done) | (simp [cat, length_join, length_mleaf, length_mpair, hr, hs]; omega) | rfl)) rfl ?_
                  intro _ w S
                  refine p_nil ?_
                  exact x_then ⟨_, rfl, _, _, upds_eq ⟨rfl, rfl, rfl, rfl, rfl, trivial⟩, length_join _ _, by rw [if_neg (by omega)]; rfl, S⟩
              · rintro f w ⟨u, now3, rfl, hnl3, h3, S⟩
                refine x_then (s_plain ?_)
                have R3 : Rd w0 32 (if c1 = 1 then A1 else A1.map (·.add (1 * 32))) P3.length (sv P3) := by { have h9 := Rd.drop_sv (m := 1) hP R1 (by simp) cR1; simpa using h9 }
                refine p_val (e_move (v := .slice _ _ _) rfl) rfl ?_
                refine p_val (e_sl_l (1) rfl rfl (rfl) (by simp) Try.underlying24 sz29) rfl ?_
                refine p_val (e_assign (v := .slice _ _ _) rfl) rfl ?_
                refine p_nil ?_
                exact x_then ⟨_, rfl, _, _,  _,  P3,  _, upds_eq ⟨rfl, rfl, rfl, rfl, rfl, trivial⟩, hnl3, R3, fun x hx => hP x (by simp [hx]), by simp at cR1; omega, by rw [climbC_cons (by omega) (by omega), h3], S⟩
          · refine s_skip ?_
            exact x_then ⟨_, rfl, _, _,  _,  P1,  _, upds_eq ⟨rfl, rfl, rfl, rfl, rfl, trivial⟩, hnl, R1, hP, by first | omega | rfl | with_reducible assumption | (simp; done) | (simp; omega), (climbC_no (by omega) (by omega)).symm, S⟩
        · rintro f w ⟨u, A2, c2, P2, now2, rfl, hnl2, R2, hP2, cR2, hc2, S⟩
          refine x_then (s_plain ?_)
          refine p_val (e_move (v := .int _ _) rfl) rfl ?_
          refine p_val (e_quo64 rfl rfl (by omega)) rfl ?_
          refine p_val (e_move (v := .int _ _) rfl) rfl ?_
          refine p_val (e_add64 rfl rfl (by omega)) rfl ?_
          refine p_val (e_quo64 rfl rfl (by omega)) rfl ?_
          refine p_val (e_assign (v := .int _ _) rfl) rfl ?_
          refine p_val (e_assign (v := .int _ _) rfl) rfl ?_
          refine p_nil (x_in ?_)
          refine x_round ((n + 1) / 2) _ rfl ⟨_, b / 2,  _,  _,  P2,  _, upds_eq ⟨rfl, rfl, rfl, rfl, rfl, trivial⟩, hnl2, by first | omega | rfl | with_reducible assumption | (simp; done) | (simp; omega), by first | omega | rfl | with_reducible assumption | (simp; done) | (simp; omega), R2, hP2, by first | omega | rfl | with_reducible assumption | (simp; done) | (simp; omega), by rw [hc2]; exact hc, S⟩ (by omega)
      · refine s_exit (x_then_exit (x_then_exit (x_in_same (x_then (s_seq ?_)))))
        refine s_cutK (ks := [some b11, some b6, some b5]) (ps := [Ex _ _, Ex _ _, Ex _ _]) [] trivial S (fun keep ks ps f' w' => ∃ u bb, f' = upds u ((10, .bool bb) :: keep) ∧ (bb = true ↔ (P1 = [] ∧ now = r)) ∧ St w0 w' [] ks ps) ?_ ?_
        · refine s_plain ?_
          refine p_val (e_move (v := .slice _ _ _) rfl) rfl ?_
          refine p_val (e_len rfl Try.underlying24) rfl ?_
          refine p_valB (e_eql rfl rfl) rfl (fun hg56 => ?_) (fun hg56 => ?_)
          · refine p_val (e_move (v := .bool _) rfl) rfl ?_
            refine pg_val rfl rfl rfl rfl rfl (e_loadW 0 rfl ag29 sz29 S rfl rfl (by first | with_reducible assumption | (rw [bv_length]; with_reducible assumption) | (rw [List.size_toArray, bv_length]; with_reducible assumption) | (simp [cat, length_join, length_mleaf, length_mpair, hr, hs]; done) | (simp [cat, length_join, length_mleaf, length_mpair, hr, hs]; omega) | rfl)) ?_
            refine pg_val rfl rfl rfl rfl rfl (e_loadW 2 rfl ag29 sz29 S rfl rfl (by first | with_reducible assumption | (rw [bv_length]; with_reducible assumption) | (rw [List.size_toArray, bv_length]; with_reducible assumption) | (simp [cat, length_join, length_mleaf, length_mpair, hr, hs]; done) | (simp [cat, length_join, length_mleaf, length_mpair, hr, hs]; omega) | rfl)) ?_
            refine pg_val rfl rfl rfl rfl rfl (EqT.sum eq29 gd29 rfl rfl (by first | with_reducible assumption | (rw [bv_length]; with_reducible assumption) | (rw [List.size_toArray, bv_length]; with_reducible assumption) | (simp [cat, length_join, length_mleaf, length_mpair, hr, hs]; done) | (simp [cat, length_join, length_mleaf, length_mpair, hr, hs]; omega) | rfl) (by first | with_reducible assumption | (rw [bv_length]; with_reducible assumption) | (rw [List.size_toArray, bv_length]; with_reducible assumption) | (simp [cat, length_join, length_mleaf, length_mpair, hr, hs]; done) | (simp [cat, length_join, length_mleaf, length_mpair, hr, hs]; omega) | rfl)) ?_
            refine p_val (e_pick_t rfl rfl) rfl ?_
            refine p_val (e_assign (v := .bool _) rfl) rfl ?_
            exact p_nil (x_then ⟨_, rfl, _, _, upds_eq ⟨rfl, trivial⟩, by first | (simp; done) | (constructor <;> intro h <;> simp_all) | simp_all, S⟩)
          · refine p_val (e_move (v := .bool _) rfl) rfl ?_
            refine p_no rfl rfl rfl rfl rfl ?_
            refine p_no rfl rfl rfl rfl rfl ?_
            refine p_no rfl rfl rfl rfl rfl ?_
            refine p_val (e_pick_f rfl rfl) rfl ?_
            refine p_val (e_assign (v := .bool _) rfl) rfl ?_
            exact p_nil (x_then ⟨_, rfl, _, _, upds_eq ⟨rfl, trivial⟩, by first | (simp; done) | (constructor <;> intro h <;> simp_all) | simp_all, S⟩)
        · rintro f w ⟨u, b10, rfl, hb10, S⟩
          refine x_then (s_ret ?_)
          exact post1 (v := .bool _) Try.results38 rfl (⟨by congr 1; apply Bool.eq_iff_iff.2; rw [hb10, decide_eq_true_iff]; unfold mcheck; rw [Int.toNat_natCast, Int.toNat_natCast, ← hc, climbC_end (by omega)]; cases P1 with | nil => exact ⟨fun h => ⟨by omega, by omega, by omega, by rw [h.2]⟩, fun h => ⟨rfl, Option.some.inj h.2.2.2⟩⟩ | cons p P3 => exact ⟨fun h => absurd h.1 (by simp), fun h => absurd h.2.2.2 (by simp)⟩, S.to_below⟩)
end Go.Proofs.Ytdhfiamgmokfbaa
