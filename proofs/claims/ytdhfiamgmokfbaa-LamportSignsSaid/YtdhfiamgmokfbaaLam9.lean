/- Lamport's law on signatures. It proves no statement by itself. -/
import Derived.Test.YtdhfiamgmokfbaaLam8
set_option linter.unusedSimpArgs false
set_option linter.unusedVariables false
set_option maxRecDepth 100000
set_option maxHeartbeats 4000000
namespace Go.Proofs.Ytdhfiamgmokfbaa
open Go Go.RowKit E
theorem sigB_lt (s d : List Nat) : ∀ i, ∀ x ∈ sigB s d i, x < 256
  | 0, x, h => by simp [sigB] at h
  | i + 1, x, h => by
    rw [sigB] at h
    rcases List.mem_append.1 h with h | h
    · rcases List.mem_append.1 h with h | h
      · exact sigB_lt s d i x h
      · exact join_lt _ _ x h
    · exact join_lt _ _ x h
theorem lsig_lt (s l : List Nat) : ∀ x ∈ lsig s l, x < 256 := sigB_lt s _ 64
theorem length_lsig (s l : List Nat) : (lsig s l).length = 4096 := length_sigB _ _ 64
theorem sig_step (s d : List Nat) (i : Nat) : sigB s d (i + 1) = sigB s d i ++ (lsec s (i : Int) ((lbit d i : Nat) : Int) ++ lshown (lsec s (i : Int) (1 - ((lbit d i : Nat) : Int)))) := by
  have h := lbit_lt d i
  rw [sigB, sigS, sigO, show (((lbit d i : Nat) : Int)) % 2 = ((lbit d i : Nat) : Int) by omega, show (1 - ((lbit d i : Nat) : Int)) % 2 = 1 - ((lbit d i : Nat) : Int) by omega, List.append_assoc]
theorem pub_step (s : List Nat) (i h : Nat) (hh : h < 2) : pubI s i (h + 1) = pubI s i h ++ lshown (lsec s (i : Int) (h : Int)) := by
  rw [pubI, show ((h : Nat) : Int) % 2 = ((h : Nat) : Int) by omega]
theorem lsigns_calls (w0 : World) (s : List Nat) (A : Option Addr) (n c : Nat) (l : List Nat) (hs : s.length = 32) (R : Rd w0 1 A n (bv l)) (hc : n ≤ c) :
    Ret Try.prog 4 [.agg (bv s).toArray, .slice A n c] w0 fun v w' => v = .bool true ∧ Below w0.heap.size w0 w' := by
  refine enter Try.func4 rfl Try.ntmps4 (Nat.le_of_ble_eq_true rfl) ?_
  have S := St.init w0
  refine s_seq (s_plain ?_)
  refine p_does (d_boxA S rfl) rfl ?_
  rintro _ w ⟨b2, rfl, S⟩
  refine p_val (e_assign (v := .bool _) rfl) rfl ?_
  refine p_nil (x_then (s_seq (s_plain ?_)))
  refine p_val (e_move (v := .slice _ _ _) rfl) rfl ?_
  refine p_does (d_call Try.func25 nm25 rfl rfl (cut_calls _ _ _ _ (by omega))) rfl ?_
  rintro _ w ⟨rfl, hB⟩
  have S := S.below hB
  refine p_val (e_assign (v := .slice _ _ _) rfl) rfl ?_
  refine p_nil (x_then (s_seq (s_plain ?_)))
  refine p_val (e_assign (v := .slice _ _ _) rfl) rfl ?_
  refine p_val (e_assign (v := .slice _ _ _) rfl) rfl ?_
  refine p_nil (x_then (s_seq (s_seq (s_plain ?_))))
  refine p_val (e_assign (v := .int _ _) rfl) rfl ?_
  refine p_nil (x_then (s_block ?_))
  have S := S.addNil 5 1
  have S := S.addNil 5 1
  refine s_loopK (α := Nat) (ks := [none, none, some b2]) (ps := [Rw _ _ _ _ _, Rw _ _ _ _ _, Ex _ _]) [(1, .slice _ _ _), (2, .pointer _)] ⟨rfl, rfl, trivial⟩ S (fun keep ks ps g f' w' => ∃ u Kk6 Ck6 Kk5 Ck5 m5 x5 m6 x6, f' = upds u ((5, .slice (at_ Kk5) (m5) Ck5) :: (6, .slice (at_ Kk6) (m6) Ck6) :: (7, .int .i64 (g : Int)) :: keep) ∧ (g ≤ 64) ∧ (m5 = 64 * g) ∧ (x5 = bv (pubB s g)) ∧ (m6 = 64 * g) ∧ (x6 = bv (sigB s (ldig (l.take (min n 200))) g)) ∧ St w0 w' [] [Kk6, Kk5, some b2] [Rw 5 1 (m6) Ck6 (x6), Rw 5 1 (m5) Ck5 (x5), (ps.getD 2 fun _ => True)]) (fun g => 64 - g) (0) (⟨_, _, _, _, _, _, _, _, _, upds_eq ⟨rfl, rfl, rfl, rfl, rfl, trivial⟩, by first | omega | rfl | with_reducible assumption | (simp; done) | (simp; omega), by first | omega | rfl | with_reducible assumption | (simp; done) | (simp; omega), by first | omega | rfl | with_reducible assumption | (simp; done) | (simp; omega), by first | omega | rfl | with_reducible assumption | (simp; done) | (simp; omega), by first | omega | rfl | with_reducible assumption | (simp; done) | (simp; omega), S⟩) ?_
  rintro g f w ⟨u, Kk6, Ck6, Kk5, Ck5, m5, x5, m6, x6, rfl, hg, rfl, rfl, rfl, rfl, S⟩
  refine s_seq (s_seq (s_plain ?_))
  refine p_val (e_move (v := .int _ _) rfl) rfl ?_
  refine p_val (e_lss rfl rfl) rfl ?_
  refine p_nil (x_then ?_)
  refine s_cond rfl (fun hc20 => ?_) (fun hc20 => ?_)
  · refine s_skip (x_then (s_seq (s_block (s_seq (s_plain ?_)))))
    refine p_val (e_move (v := .slice _ _ _) rfl) rfl ?_
    refine p_val (e_move (v := .int _ _) rfl) rfl ?_
    refine p_does (d_call Try.func26 nm26 rfl rfl (l4bit_calls _ _ _ _ _ _ (Rd.take_bv (S.rdOld R rfl) (Nat.min_le_left n 200)) (by omega) (by omega))) rfl ?_
    rintro _ w ⟨rfl, hB⟩
    have S := S.below hB
    refine p_val (e_assign (v := .int _ _) rfl) rfl ?_
    refine p_nil (x_then (s_seq ?_))
    have hbl := lbit_lt (ldig (l.take (min n 200))) g
    refine s_cutK (ks := [Kk6, Kk5, some b2]) (ps := [Rw _ _ _ _ _, Rw _ _ _ _ _, Ex _ _]) [(1, .slice _ _ _), (2, .pointer _), (5, .slice _ _ _), (6, .slice _ _ _), (7, .int _ _)] ⟨rfl, rfl, rfl, rfl, rfl, trivial⟩ S (fun keep ks ps f' w' => ∃ u y9 y10, f' = upds u ((9, .pointer (some ⟨y9, 0, none⟩)) :: (10, .pointer (some ⟨y10, 0, none⟩)) :: keep) ∧ St w0 w' [] [some y9, some y10, Kk6, Kk5, some b2] [Ex (bv (lsec s (g : Int) ((lbit (ldig (l.take (min n 200))) g : Nat) : Int))).toArray 29, Ex (bv (lshown (lsec s (g : Int) (1 - ((lbit (ldig (l.take (min n 200))) g : Nat) : Int))))).toArray 29, (ps.getD 0 fun _ => True), (ps.getD 1 fun _ => True), (ps.getD 2 fun _ => True)]) ?_ ?_
    · refine s_drawTK (ks := [Kk6, Kk5, some b2]) (ps := [Rw _ _ _ _ _, Rw _ _ _ _ _, Ex _ _]) S (.sq [(true, 0), (true, 1), (true, 2), (true, 4), (true, 5), (true, 6), (true, 7)] (.fork 3 (.fork 8 (.fork 9 (.fork 10 (.sq [(false, 11), (false, 12)] .stop) (.fork 11 (.sq [(false, 10), (false, 12)] .stop) .none_)) (.fork 10 (.fork 9 (.sq [(false, 11), (false, 12)] .stop) (.fork 11 (.sq [(false, 9), (false, 12)] .stop) .none_)) (.fork 11 (.fork 9 (.sq [(false, 10), (false, 12)] .stop) (.fork 10 (.sq [(false, 9), (false, 12)] .stop) .none_)) .none_))) (.fork 10 (.fork 8 (.fork 9 (.sq [(false, 11), (false, 12)] .stop) (.fork 11 (.sq [(false, 9), (false, 12)] .stop) .none_)) (.fork 11 (.sq [(false, 8), (false, 9), (false, 12)] .stop) .none_)) (.fork 11 (.fork 8 (.fork 9 (.sq [(false, 10), (false, 12)] .stop) (.fork 10 (.sq [(false, 9), (false, 12)] .stop) .none_)) (.fork 10 (.sq [(false, 8), (false, 9), (false, 12)] .stop) .none_)) .none_))) (.fork 10 (.fork 3 (.fork 8 (.fork 9 (.sq [(false, 11), (false, 12)] .stop) (.fork 11 (.sq [(false, 9), (false, 12)] .stop) .none_)) (.fork 11 (.sq [(false, 8), (false, 9), (false, 12)] .stop) .none_)) (.fork 11 (.sq [(false, 3), (false, 8), (false, 9), (false, 12)] .stop) .none_)) (.fork 11 (.fork 3 (.fork 8 (.fork 9 (.sq [(false, 10), (false, 12)] .stop) (.fork 10 (.sq [(false, 9), (false, 12)] .stop) .none_)) (.fork 10 (.sq [(false, 8), (false, 9), (false, 12)] .stop) .none_)) (.fork 10 (.sq [(false, 3), (false, 8), (false, 9), (false, 12)] .stop) .none_)) .none_)))) [13] [13] mixed (by kernel_rfl) (by repeat (first | exact Calm.post _ _ _ | refine Calm.then ?_ _ | refine Calm.inB ?_ _)) (fun hS => ?_)
      have S := S.drew
      refine t_sq ?_
      refine q_val (fun w hS => e_loadW 2 rfl ag29 sz29 hS rfl rfl (by first | with_reducible assumption | (simp [cat, length_lsec, length_lback, length_lshown, length_lpub, length_ldig, length_join, hs]; done) | (simp [cat, length_lsec, length_lback, length_lshown, length_lpub, length_ldig, length_join, hs]; omega) | rfl)) rfl hS ?_
      refine q_val (fun w hS => e_move (v := .int _ _) rfl) rfl hS ?_
      refine q_val (fun w hS => e_move (v := .int _ _) rfl) rfl hS ?_
      refine q_val (fun w hS => e_loadW 2 rfl ag29 sz29 hS rfl rfl (by first | with_reducible assumption | (simp [cat, length_lsec, length_lback, length_lshown, length_lpub, length_ldig, length_join, hs]; done) | (simp [cat, length_lsec, length_lback, length_lshown, length_lpub, length_ldig, length_join, hs]; omega) | rfl)) rfl hS ?_
      refine q_val (fun w hS => e_move (v := .int _ _) rfl) rfl hS ?_
      refine q_val (fun w hS => e_move (v := .int _ _) rfl) rfl hS ?_
      refine q_val (fun w hS => e_sub64 rfl rfl (by omega)) rfl hS ?_
      refine q_nil ?_
      refine t_fork ?_ ?_
      · refine q_does (d_call Try.func27 nm27 rfl rfl (l4sec_calls _ _ _ _ (by first | with_reducible assumption | (simp [cat, length_lsec, length_lback, length_lshown, length_lpub, length_ldig, length_join, hs]; done) | (simp [cat, length_lsec, length_lback, length_lshown, length_lpub, length_ldig, length_join, hs]; omega) | rfl))) rfl ?_
        rintro _ w ⟨rfl, hB⟩
        have S := S.below hB
        have hS := S.pk [0, 1, 2] rfl
        refine ⟨hS, ?_⟩
        refine q_nil ?_
        refine t_fork ?_ ?_
        · refine q_does (d_call Try.func27 nm27 rfl rfl (l4sec_calls _ _ _ _ (by first | with_reducible assumption | (simp [cat, length_lsec, length_lback, length_lshown, length_lpub, length_ldig, length_join, hs]; done) | (simp [cat, length_lsec, length_lback, length_lshown, length_lpub, length_ldig, length_join, hs]; omega) | rfl))) rfl ?_
          rintro _ w ⟨rfl, hB⟩
          have S := S.below hB
          have hS := S.pk [0, 1, 2] rfl
          refine ⟨hS, ?_⟩
          refine q_nil ?_
          refine t_fork ?_ ?_
          · refine q_does (d_call Try.func28 nm28 rfl rfl (l4shown_calls _ _ (by first | with_reducible assumption | (simp [cat, length_lsec, length_lback, length_lshown, length_lpub, length_ldig, length_join, hs]; done) | (simp [cat, length_lsec, length_lback, length_lshown, length_lpub, length_ldig, length_join, hs]; omega) | rfl))) rfl ?_
            rintro _ w ⟨rfl, hB⟩
            have S := S.below hB
            have hS := S.pk [0, 1, 2] rfl
            refine ⟨hS, ?_⟩
            refine q_nil ?_
            refine t_fork ?_ ?_
            · refine q_does (d_allocA S zvS) rfl ?_
              rintro _ w ⟨y9, rfl, S⟩
              have hS := S.pk [1, 2, 3] rfl
              refine ⟨hS, ?_⟩
              refine q_nil ?_
              refine t_sq ?_
              refine q_does (d_allocA S zvS) rfl ?_
              rintro _ w ⟨y10, rfl, S⟩
              have hS := S.pk [2, 3, 4] rfl
              refine ⟨hS, ?_⟩
              refine q_does (d_storeW S 1 rfl rfl (by first | exact bv_one _ | exact sv_one _ | exact iv_one _ | with_reducible assumption | (refine One.mem ?_; repeat (first | exact One.bv _ | exact One.sv _ | exact One.iv _ | exact One.nil | exact One.cat0 | refine One.cat1 ?_ ?_ | refine One.cons rfl ?_ | refine One.append ?_ ?_))) sz29 (by first | with_reducible assumption | (simp [cat, length_lsec, length_lback, length_lshown, length_lpub, length_ldig, length_join, hs]; done) | (simp [cat, length_lsec, length_lback, length_lshown, length_lpub, length_ldig, length_join, hs]; omega) | rfl) rfl rfl (by first | with_reducible assumption | (simp [cat, length_lsec, length_lback, length_lshown, length_lpub, length_ldig, length_join, hs]; done) | (simp [cat, length_lsec, length_lback, length_lshown, length_lpub, length_ldig, length_join, hs]; omega) | rfl)) rfl ?_
              intro _ w S
              have hS := S.pk [2, 3, 4] rfl
              refine ⟨hS, ?_⟩
              refine q_nil ?_
              refine t_stop ?_
              refine p_does (d_storeW S 0 rfl rfl (by first | exact bv_one _ | exact sv_one _ | exact iv_one _ | with_reducible assumption | (refine One.mem ?_; repeat (first | exact One.bv _ | exact One.sv _ | exact One.iv _ | exact One.nil | exact One.cat0 | refine One.cat1 ?_ ?_ | refine One.cons rfl ?_ | refine One.append ?_ ?_))) sz29 (by first | with_reducible assumption | (simp [cat, length_lsec, length_lback, length_lshown, length_lpub, length_ldig, length_join, hs]; done) | (simp [cat, length_lsec, length_lback, length_lshown, length_lpub, length_ldig, length_join, hs]; omega) | rfl) rfl rfl (by first | with_reducible assumption | (simp [cat, length_lsec, length_lback, length_lshown, length_lpub, length_ldig, length_join, hs]; done) | (simp [cat, length_lsec, length_lback, length_lshown, length_lpub, length_ldig, length_join, hs]; omega) | rfl)) rfl ?_
              intro _ w S
              exact p_nil (x_then ⟨_, rfl, _, _, _, upds_eq ⟨rfl, rfl, rfl, rfl, rfl, rfl, rfl, trivial⟩, S.pk [1, 0, 2, 3, 4] rfl⟩)
            · refine t_fork ?_ ?_
              · refine q_does (d_allocA S zvS) rfl ?_
                rintro _ w ⟨y10, rfl, S⟩
                have hS := S.pk [1, 2, 3] rfl
                refine ⟨hS, ?_⟩
                refine q_nil ?_
                refine t_sq ?_
                refine q_does (d_allocA S zvS) rfl ?_
                rintro _ w ⟨y9, rfl, S⟩
                have hS := S.pk [2, 3, 4] rfl
                refine ⟨hS, ?_⟩
                refine q_does (d_storeW S 0 rfl rfl (by first | exact bv_one _ | exact sv_one _ | exact iv_one _ | with_reducible assumption | (refine One.mem ?_; repeat (first | exact One.bv _ | exact One.sv _ | exact One.iv _ | exact One.nil | exact One.cat0 | refine One.cat1 ?_ ?_ | refine One.cons rfl ?_ | refine One.append ?_ ?_))) sz29 (by first | with_reducible assumption | (simp [cat, length_lsec, length_lback, length_lshown, length_lpub, length_ldig, length_join, hs]; done) | (simp [cat, length_lsec, length_lback, length_lshown, length_lpub, length_ldig, length_join, hs]; omega) | rfl) rfl rfl (by first | with_reducible assumption | (simp [cat, length_lsec, length_lback, length_lshown, length_lpub, length_ldig, length_join, hs]; done) | (simp [cat, length_lsec, length_lback, length_lshown, length_lpub, length_ldig, length_join, hs]; omega) | rfl)) rfl ?_
                intro _ w S
                have hS := S.pk [2, 3, 4] rfl
                refine ⟨hS, ?_⟩
                refine q_nil ?_
                refine t_stop ?_
                refine p_does (d_storeW S 1 rfl rfl (by first | exact bv_one _ | exact sv_one _ | exact iv_one _ | with_reducible assumption | (refine One.mem ?_; repeat (first | exact One.bv _ | exact One.sv _ | exact One.iv _ | exact One.nil | exact One.cat0 | refine One.cat1 ?_ ?_ | refine One.cons rfl ?_ | refine One.append ?_ ?_))) sz29 (by first | with_reducible assumption | (simp [cat, length_lsec, length_lback, length_lshown, length_lpub, length_ldig, length_join, hs]; done) | (simp [cat, length_lsec, length_lback, length_lshown, length_lpub, length_ldig, length_join, hs]; omega) | rfl) rfl rfl (by first | with_reducible assumption | (simp [cat, length_lsec, length_lback, length_lshown, length_lpub, length_ldig, length_join, hs]; done) | (simp [cat, length_lsec, length_lback, length_lshown, length_lpub, length_ldig, length_join, hs]; omega) | rfl)) rfl ?_
                intro _ w S
                exact p_nil (x_then ⟨_, rfl, _, _, _, upds_eq ⟨rfl, rfl, rfl, rfl, rfl, rfl, rfl, trivial⟩, S.pk [0, 1, 2, 3, 4] rfl⟩)
              · exact t_none
          · refine t_fork ?_ ?_
            · refine q_does (d_allocA S zvS) rfl ?_
              rintro _ w ⟨y9, rfl, S⟩
              have hS := S.pk [1, 2, 3] rfl
              refine ⟨hS, ?_⟩
              refine q_nil ?_
              refine t_fork ?_ ?_
              · refine q_does (d_call Try.func28 nm28 rfl rfl (l4shown_calls _ _ (by first | with_reducible assumption | (simp [cat, length_lsec, length_lback, length_lshown, length_lpub, length_ldig, length_join, hs]; done) | (simp [cat, length_lsec, length_lback, length_lshown, length_lpub, length_ldig, length_join, hs]; omega) | rfl))) rfl ?_
                rintro _ w ⟨rfl, hB⟩
                have S := S.below hB
                have hS := S.pk [1, 2, 3] rfl
                refine ⟨hS, ?_⟩
                refine q_nil ?_
                refine t_sq ?_
                refine q_does (d_allocA S zvS) rfl ?_
                rintro _ w ⟨y10, rfl, S⟩
                have hS := S.pk [2, 3, 4] rfl
                refine ⟨hS, ?_⟩
                refine q_does (d_storeW S 1 rfl rfl (by first | exact bv_one _ | exact sv_one _ | exact iv_one _ | with_reducible assumption | (refine One.mem ?_; repeat (first | exact One.bv _ | exact One.sv _ | exact One.iv _ | exact One.nil | exact One.cat0 | refine One.cat1 ?_ ?_ | refine One.cons rfl ?_ | refine One.append ?_ ?_))) sz29 (by first | with_reducible assumption | (simp [cat, length_lsec, length_lback, length_lshown, length_lpub, length_ldig, length_join, hs]; done) | (simp [cat, length_lsec, length_lback, length_lshown, length_lpub, length_ldig, length_join, hs]; omega) | rfl) rfl rfl (by first | with_reducible assumption | (simp [cat, length_lsec, length_lback, length_lshown, length_lpub, length_ldig, length_join, hs]; done) | (simp [cat, length_lsec, length_lback, length_lshown, length_lpub, length_ldig, length_join, hs]; omega) | rfl)) rfl ?_
                intro _ w S
                have hS := S.pk [2, 3, 4] rfl
                refine ⟨hS, ?_⟩
                refine q_nil ?_
                refine t_stop ?_
                refine p_does (d_storeW S 0 rfl rfl (by first | exact bv_one _ | exact sv_one _ | exact iv_one _ | with_reducible assumption | (refine One.mem ?_; repeat (first | exact One.bv _ | exact One.sv _ | exact One.iv _ | exact One.nil | exact One.cat0 | refine One.cat1 ?_ ?_ | refine One.cons rfl ?_ | refine One.append ?_ ?_))) sz29 (by first | with_reducible assumption | (simp [cat, length_lsec, length_lback, length_lshown, length_lpub, length_ldig, length_join, hs]; done) | (simp [cat, length_lsec, length_lback, length_lshown, length_lpub, length_ldig, length_join, hs]; omega) | rfl) rfl rfl (by first | with_reducible assumption | (simp [cat, length_lsec, length_lback, length_lshown, length_lpub, length_ldig, length_join, hs]; done) | (simp [cat, length_lsec, length_lback, length_lshown, length_lpub, length_ldig, length_join, hs]; omega) | rfl)) rfl ?_
                intro _ w S
                exact p_nil (x_then ⟨_, rfl, _, _, _, upds_eq ⟨rfl, rfl, rfl, rfl, rfl, rfl, rfl, trivial⟩, S.pk [1, 0, 2, 3, 4] rfl⟩)
              · refine t_fork ?_ ?_
                · refine q_does (d_allocA S zvS) rfl ?_
                  rintro _ w ⟨y10, rfl, S⟩
                  have hS := S.pk [2, 3, 4] rfl
                  refine ⟨hS, ?_⟩
                  refine q_nil ?_
                  refine t_sq ?_
                  refine q_does (d_call Try.func28 nm28 rfl rfl (l4shown_calls _ _ (by first | with_reducible assumption | (simp [cat, length_lsec, length_lback, length_lshown, length_lpub, length_ldig, length_join, hs]; done) | (simp [cat, length_lsec, length_lback, length_lshown, length_lpub, length_ldig, length_join, hs]; omega) | rfl))) rfl ?_
                  rintro _ w ⟨rfl, hB⟩
                  have S := S.below hB
                  have hS := S.pk [2, 3, 4] rfl
                  refine ⟨hS, ?_⟩
                  refine q_does (d_storeW S 1 rfl rfl (by first | exact bv_one _ | exact sv_one _ | exact iv_one _ | with_reducible assumption | (refine One.mem ?_; repeat (first | exact One.bv _ | exact One.sv _ | exact One.iv _ | exact One.nil | exact One.cat0 | refine One.cat1 ?_ ?_ | refine One.cons rfl ?_ | refine One.append ?_ ?_))) sz29 (by first | with_reducible assumption | (simp [cat, length_lsec, length_lback, length_lshown, length_lpub, length_ldig, length_join, hs]; done) | (simp [cat, length_lsec, length_lback, length_lshown, length_lpub, length_ldig, length_join, hs]; omega) | rfl) rfl rfl (by first | with_reducible assumption | (simp [cat, length_lsec, length_lback, length_lshown, length_lpub, length_ldig, length_join, hs]; done) | (simp [cat, length_lsec, length_lback, length_lshown, length_lpub, length_ldig, length_join, hs]; omega) | rfl)) rfl ?_
                  intro _ w S
                  have hS := S.pk [2, 3, 4] rfl
                  refine ⟨hS, ?_⟩
                  refine q_nil ?_
                  refine t_stop ?_
                  refine p_does (d_storeW S 0 rfl rfl (by first | exact bv_one _ | exact sv_one _ | exact iv_one _ | with_reducible assumption | (refine One.mem ?_; repeat (first | exact One.bv _ | exact One.sv _ | exact One.iv _ | exact One.nil | exact One.cat0 | refine One.cat1 ?_ ?_ | refine One.cons rfl ?_ | refine One.append ?_ ?_))) sz29 (by first | with_reducible assumption | (simp [cat, length_lsec, length_lback, length_lshown, length_lpub, length_ldig, length_join, hs]; done) | (simp [cat, length_lsec, length_lback, length_lshown, length_lpub, length_ldig, length_join, hs]; omega) | rfl) rfl rfl (by first | with_reducible assumption | (simp [cat, length_lsec, length_lback, length_lshown, length_lpub, length_ldig, length_join, hs]; done) | (simp [cat, length_lsec, length_lback, length_lshown, length_lpub, length_ldig, length_join, hs]; omega) | rfl)) rfl ?_
                  intro _ w S
                  exact p_nil (x_then ⟨_, rfl, _, _, _, upds_eq ⟨rfl, rfl, rfl, rfl, rfl, rfl, rfl, trivial⟩, S.pk [1, 0, 2, 3, 4] rfl⟩)
                · exact t_none
            · refine t_fork ?_ ?_
              · refine q_does (d_allocA S zvS) rfl ?_
                rintro _ w ⟨y10, rfl, S⟩
                have hS := S.pk [1, 2, 3] rfl
                refine ⟨hS, ?_⟩
                refine q_nil ?_
                refine t_fork ?_ ?_
                · refine q_does (d_call Try.func28 nm28 rfl rfl (l4shown_calls _ _ (by first | with_reducible assumption | (simp [cat, length_lsec, length_lback, length_lshown, length_lpub, length_ldig, length_join, hs]; done) | (simp [cat, length_lsec, length_lback, length_lshown, length_lpub, length_ldig, length_join, hs]; omega) | rfl))) rfl ?_
                  rintro _ w ⟨rfl, hB⟩
                  have S := S.below hB
                  have hS := S.pk [1, 2, 3] rfl
                  refine ⟨hS, ?_⟩
                  refine q_nil ?_
                  refine t_sq ?_
                  refine q_does (d_allocA S zvS) rfl ?_
                  rintro _ w ⟨y9, rfl, S⟩
                  have hS := S.pk [2, 3, 4] rfl
                  refine ⟨hS, ?_⟩
                  refine q_does (d_storeW S 0 rfl rfl (by first | exact bv_one _ | exact sv_one _ | exact iv_one _ | with_reducible assumption | (refine One.mem ?_; repeat (first | exact One.bv _ | exact One.sv _ | exact One.iv _ | exact One.nil | exact One.cat0 | refine One.cat1 ?_ ?_ | refine One.cons rfl ?_ | refine One.append ?_ ?_))) sz29 (by first | with_reducible assumption | (simp [cat, length_lsec, length_lback, length_lshown, length_lpub, length_ldig, length_join, hs]; done) | (simp [cat, length_lsec, length_lback, length_lshown, length_lpub, length_ldig, length_join, hs]; omega) | rfl) rfl rfl (by first | with_reducible assumption | (simp [cat, length_lsec, length_lback, length_lshown, length_lpub, length_ldig, length_join, hs]; done) | (simp [cat, length_lsec, length_lback, length_lshown, length_lpub, length_ldig, length_join, hs]; omega) | rfl)) rfl ?_
                  intro _ w S
                  have hS := S.pk [2, 3, 4] rfl
                  refine ⟨hS, ?_⟩
                  refine q_nil ?_
                  refine t_stop ?_
                  refine p_does (d_storeW S 1 rfl rfl (by first | exact bv_one _ | exact sv_one _ | exact iv_one _ | with_reducible assumption | (refine One.mem ?_; repeat (first | exact One.bv _ | exact One.sv _ | exact One.iv _ | exact One.nil | exact One.cat0 | refine One.cat1 ?_ ?_ | refine One.cons rfl ?_ | refine One.append ?_ ?_))) sz29 (by first | with_reducible assumption | (simp [cat, length_lsec, length_lback, length_lshown, length_lpub, length_ldig, length_join, hs]; done) | (simp [cat, length_lsec, length_lback, length_lshown, length_lpub, length_ldig, length_join, hs]; omega) | rfl) rfl rfl (by first | with_reducible assumption | (simp [cat, length_lsec, length_lback, length_lshown, length_lpub, length_ldig, length_join, hs]; done) | (simp [cat, length_lsec, length_lback, length_lshown, length_lpub, length_ldig, length_join, hs]; omega) | rfl)) rfl ?_
                  intro _ w S
                  exact p_nil (x_then ⟨_, rfl, _, _, _, upds_eq ⟨rfl, rfl, rfl, rfl, rfl, rfl, rfl, trivial⟩, S.pk [0, 1, 2, 3, 4] rfl⟩)
                · refine t_fork ?_ ?_
                  · refine q_does (d_allocA S zvS) rfl ?_
                    rintro _ w ⟨y9, rfl, S⟩
                    have hS := S.pk [2, 3, 4] rfl
                    refine ⟨hS, ?_⟩
                    refine q_nil ?_
                    refine t_sq ?_
                    refine q_does (d_call Try.func28 nm28 rfl rfl (l4shown_calls _ _ (by first | with_reducible assumption | (simp [cat, length_lsec, length_lback, length_lshown, length_lpub, length_ldig, length_join, hs]; done) | (simp [cat, length_lsec, length_lback, length_lshown, length_lpub, length_ldig, length_join, hs]; omega) | rfl))) rfl ?_
                    rintro _ w ⟨rfl, hB⟩
                    have S := S.below hB
                    have hS := S.pk [2, 3, 4] rfl
                    refine ⟨hS, ?_⟩
                    refine q_does (d_storeW S 0 rfl rfl (by first | exact bv_one _ | exact sv_one _ | exact iv_one _ | with_reducible assumption | (refine One.mem ?_; repeat (first | exact One.bv _ | exact One.sv _ | exact One.iv _ | exact One.nil | exact One.cat0 | refine One.cat1 ?_ ?_ | refine One.cons rfl ?_ | refine One.append ?_ ?_))) sz29 (by first | with_reducible assumption | (simp [cat, length_lsec, length_lback, length_lshown, length_lpub, length_ldig, length_join, hs]; done) | (simp [cat, length_lsec, length_lback, length_lshown, length_lpub, length_ldig, length_join, hs]; omega) | rfl) rfl rfl (by first | with_reducible assumption | (simp [cat, length_lsec, length_lback, length_lshown, length_lpub, length_ldig, length_join, hs]; done) | (simp [cat, length_lsec, length_lback, length_lshown, length_lpub, length_ldig, length_join, hs]; omega) | rfl)) rfl ?_
                    intro _ w S
                    have hS := S.pk [2, 3, 4] rfl
                    refine ⟨hS, ?_⟩
                    refine q_nil ?_
                    refine t_stop ?_
                    refine p_does (d_storeW S 1 rfl rfl (by first | exact bv_one _ | exact sv_one _ | exact iv_one _ | with_reducible assumption | (refine One.mem ?_; repeat (first | exact One.bv _ | exact One.sv _ | exact One.iv _ | exact One.nil | exact One.cat0 | refine One.cat1 ?_ ?_ | refine One.cons rfl ?_ | refine One.append ?_ ?_))) sz29 (by first | with_reducible assumption | (simp [cat, length_lsec, length_lback, length_lshown, length_lpub, length_ldig, length_join, hs]; done) | (simp [cat, length_lsec, length_lback, length_lshown, length_lpub, length_ldig, length_join, hs]; omega) | rfl) rfl rfl (by first | with_reducible assumption | (simp [cat, length_lsec, length_lback, length_lshown, length_lpub, length_ldig, length_join, hs]; done) | (simp [cat, length_lsec, length_lback, length_lshown, length_lpub, length_ldig, length_join, hs]; omega) | rfl)) rfl ?_
                    intro _ w S
                    exact p_nil (x_then ⟨_, rfl, _, _, _, upds_eq ⟨rfl, rfl, rfl, rfl, rfl, rfl, rfl, trivial⟩, S.pk [0, 1, 2, 3, 4] rfl⟩)
                  · exact t_none
              · exact t_none
        · refine t_fork ?_ ?_
          · refine q_does (d_allocA S zvS) rfl ?_
            rintro _ w ⟨y9, rfl, S⟩
            have hS := S.pk [1, 2, 3] rfl
            refine ⟨hS, ?_⟩
            refine q_nil ?_
            refine t_fork ?_ ?_
            · refine q_does (d_call Try.func27 nm27 rfl rfl (l4sec_calls _ _ _ _ (by first | with_reducible assumption | (simp [cat, length_lsec, length_lback, length_lshown, length_lpub, length_ldig, length_join, hs]; done) | (simp [cat, length_lsec, length_lback, length_lshown, length_lpub, length_ldig, length_join, hs]; omega) | rfl))) rfl ?_
              rintro _ w ⟨rfl, hB⟩
              have S := S.below hB
              have hS := S.pk [1, 2, 3] rfl
              refine ⟨hS, ?_⟩
              refine q_nil ?_
              refine t_fork ?_ ?_
              · refine q_does (d_call Try.func28 nm28 rfl rfl (l4shown_calls _ _ (by first | with_reducible assumption | (simp [cat, length_lsec, length_lback, length_lshown, length_lpub, length_ldig, length_join, hs]; done) | (simp [cat, length_lsec, length_lback, length_lshown, length_lpub, length_ldig, length_join, hs]; omega) | rfl))) rfl ?_
                rintro _ w ⟨rfl, hB⟩
                have S := S.below hB
                have hS := S.pk [1, 2, 3] rfl
                refine ⟨hS, ?_⟩
                refine q_nil ?_
                refine t_sq ?_
                refine q_does (d_allocA S zvS) rfl ?_
                rintro _ w ⟨y10, rfl, S⟩
                have hS := S.pk [2, 3, 4] rfl
                refine ⟨hS, ?_⟩
                refine q_does (d_storeW S 1 rfl rfl (by first | exact bv_one _ | exact sv_one _ | exact iv_one _ | with_reducible assumption | (refine One.mem ?_; repeat (first | exact One.bv _ | exact One.sv _ | exact One.iv _ | exact One.nil | exact One.cat0 | refine One.cat1 ?_ ?_ | refine One.cons rfl ?_ | refine One.append ?_ ?_))) sz29 (by first | with_reducible assumption | (simp [cat, length_lsec, length_lback, length_lshown, length_lpub, length_ldig, length_join, hs]; done) | (simp [cat, length_lsec, length_lback, length_lshown, length_lpub, length_ldig, length_join, hs]; omega) | rfl) rfl rfl (by first | with_reducible assumption | (simp [cat, length_lsec, length_lback, length_lshown, length_lpub, length_ldig, length_join, hs]; done) | (simp [cat, length_lsec, length_lback, length_lshown, length_lpub, length_ldig, length_join, hs]; omega) | rfl)) rfl ?_
                intro _ w S
                have hS := S.pk [2, 3, 4] rfl
                refine ⟨hS, ?_⟩
                refine q_nil ?_
                refine t_stop ?_
                refine p_does (d_storeW S 0 rfl rfl (by first | exact bv_one _ | exact sv_one _ | exact iv_one _ | with_reducible assumption | (refine One.mem ?_; repeat (first | exact One.bv _ | exact One.sv _ | exact One.iv _ | exact One.nil | exact One.cat0 | refine One.cat1 ?_ ?_ | refine One.cons rfl ?_ | refine One.append ?_ ?_))) sz29 (by first | with_reducible assumption | (simp [cat, length_lsec, length_lback, length_lshown, length_lpub, length_ldig, length_join, hs]; done) | (simp [cat, length_lsec, length_lback, length_lshown, length_lpub, length_ldig, length_join, hs]; omega) | rfl) rfl rfl (by first | with_reducible assumption | (simp [cat, length_lsec, length_lback, length_lshown, length_lpub, length_ldig, length_join, hs]; done) | (simp [cat, length_lsec, length_lback, length_lshown, length_lpub, length_ldig, length_join, hs]; omega) | rfl)) rfl ?_
                intro _ w S
                exact p_nil (x_then ⟨_, rfl, _, _, _, upds_eq ⟨rfl, rfl, rfl, rfl, rfl, rfl, rfl, trivial⟩, S.pk [1, 0, 2, 3, 4] rfl⟩)
              · refine t_fork ?_ ?_
                · refine q_does (d_allocA S zvS) rfl ?_
                  rintro _ w ⟨y10, rfl, S⟩
                  have hS := S.pk [2, 3, 4] rfl
                  refine ⟨hS, ?_⟩
                  refine q_nil ?_
                  refine t_sq ?_
                  refine q_does (d_call Try.func28 nm28 rfl rfl (l4shown_calls _ _ (by first | with_reducible assumption | (simp [cat, length_lsec, length_lback, length_lshown, length_lpub, length_ldig, length_join, hs]; done) | (simp [cat, length_lsec, length_lback, length_lshown, length_lpub, length_ldig, length_join, hs]; omega) | rfl))) rfl ?_
                  rintro _ w ⟨rfl, hB⟩
                  have S := S.below hB
                  have hS := S.pk [2, 3, 4] rfl
                  refine ⟨hS, ?_⟩
                  refine q_does (d_storeW S 1 rfl rfl (by first | exact bv_one _ | exact sv_one _ | exact iv_one _ | with_reducible assumption | (refine One.mem ?_; repeat (first | exact One.bv _ | exact One.sv _ | exact One.iv _ | exact One.nil | exact One.cat0 | refine One.cat1 ?_ ?_ | refine One.cons rfl ?_ | refine One.append ?_ ?_))) sz29 (by first | with_reducible assumption | (simp [cat, length_lsec, length_lback, length_lshown, length_lpub, length_ldig, length_join, hs]; done) | (simp [cat, length_lsec, length_lback, length_lshown, length_lpub, length_ldig, length_join, hs]; omega) | rfl) rfl rfl (by first | with_reducible assumption | (simp [cat, length_lsec, length_lback, length_lshown, length_lpub, length_ldig, length_join, hs]; done) | (simp [cat, length_lsec, length_lback, length_lshown, length_lpub, length_ldig, length_join, hs]; omega) | rfl)) rfl ?_
                  intro _ w S
                  have hS := S.pk [2, 3, 4] rfl
                  refine ⟨hS, ?_⟩
                  refine q_nil ?_
                  refine t_stop ?_
                  refine p_does (d_storeW S 0 rfl rfl (by first | exact bv_one _ | exact sv_one _ | exact iv_one _ | with_reducible assumption | (refine One.mem ?_; repeat (first | exact One.bv _ | exact One.sv _ | exact One.iv _ | exact One.nil | exact One.cat0 | refine One.cat1 ?_ ?_ | refine One.cons rfl ?_ | refine One.append ?_ ?_))) sz29 (by first | with_reducible assumption | (simp [cat, length_lsec, length_lback, length_lshown, length_lpub, length_ldig, length_join, hs]; done) | (simp [cat, length_lsec, length_lback, length_lshown, length_lpub, length_ldig, length_join, hs]; omega) | rfl) rfl rfl (by first | with_reducible assumption | (simp [cat, length_lsec, length_lback, length_lshown, length_lpub, length_ldig, length_join, hs]; done) | (simp [cat, length_lsec, length_lback, length_lshown, length_lpub, length_ldig, length_join, hs]; omega) | rfl)) rfl ?_
                  intro _ w S
                  exact p_nil (x_then ⟨_, rfl, _, _, _, upds_eq ⟨rfl, rfl, rfl, rfl, rfl, rfl, rfl, trivial⟩, S.pk [1, 0, 2, 3, 4] rfl⟩)
                · exact t_none
            · refine t_fork ?_ ?_
              · refine q_does (d_allocA S zvS) rfl ?_
                rintro _ w ⟨y10, rfl, S⟩
                have hS := S.pk [2, 3, 4] rfl
                refine ⟨hS, ?_⟩
                refine q_nil ?_
                refine t_sq ?_
                refine q_does (d_call Try.func27 nm27 rfl rfl (l4sec_calls _ _ _ _ (by first | with_reducible assumption | (simp [cat, length_lsec, length_lback, length_lshown, length_lpub, length_ldig, length_join, hs]; done) | (simp [cat, length_lsec, length_lback, length_lshown, length_lpub, length_ldig, length_join, hs]; omega) | rfl))) rfl ?_
                rintro _ w ⟨rfl, hB⟩
                have S := S.below hB
                have hS := S.pk [2, 3, 4] rfl
                refine ⟨hS, ?_⟩
                refine q_does (d_call Try.func28 nm28 rfl rfl (l4shown_calls _ _ (by first | with_reducible assumption | (simp [cat, length_lsec, length_lback, length_lshown, length_lpub, length_ldig, length_join, hs]; done) | (simp [cat, length_lsec, length_lback, length_lshown, length_lpub, length_ldig, length_join, hs]; omega) | rfl))) rfl ?_
                rintro _ w ⟨rfl, hB⟩
                have S := S.below hB
                have hS := S.pk [2, 3, 4] rfl
                refine ⟨hS, ?_⟩
                refine q_does (d_storeW S 1 rfl rfl (by first | exact bv_one _ | exact sv_one _ | exact iv_one _ | with_reducible assumption | (refine One.mem ?_; repeat (first | exact One.bv _ | exact One.sv _ | exact One.iv _ | exact One.nil | exact One.cat0 | refine One.cat1 ?_ ?_ | refine One.cons rfl ?_ | refine One.append ?_ ?_))) sz29 (by first | with_reducible assumption | (simp [cat, length_lsec, length_lback, length_lshown, length_lpub, length_ldig, length_join, hs]; done) | (simp [cat, length_lsec, length_lback, length_lshown, length_lpub, length_ldig, length_join, hs]; omega) | rfl) rfl rfl (by first | with_reducible assumption | (simp [cat, length_lsec, length_lback, length_lshown, length_lpub, length_ldig, length_join, hs]; done) | (simp [cat, length_lsec, length_lback, length_lshown, length_lpub, length_ldig, length_join, hs]; omega) | rfl)) rfl ?_
                intro _ w S
                have hS := S.pk [2, 3, 4] rfl
                refine ⟨hS, ?_⟩
                refine q_nil ?_
                refine t_stop ?_
                refine p_does (d_storeW S 0 rfl rfl (by first | exact bv_one _ | exact sv_one _ | exact iv_one _ | with_reducible assumption | (refine One.mem ?_; repeat (first | exact One.bv _ | exact One.sv _ | exact One.iv _ | exact One.nil | exact One.cat0 | refine One.cat1 ?_ ?_ | refine One.cons rfl ?_ | refine One.append ?_ ?_))) sz29 (by first | with_reducible assumption | (simp [cat, length_lsec, length_lback, length_lshown, length_lpub, length_ldig, length_join, hs]; done) | (simp [cat, length_lsec, length_lback, length_lshown, length_lpub, length_ldig, length_join, hs]; omega) | rfl) rfl rfl (by first | with_reducible assumption | (simp [cat, length_lsec, length_lback, length_lshown, length_lpub, length_ldig, length_join, hs]; done) | (simp [cat, length_lsec, length_lback, length_lshown, length_lpub, length_ldig, length_join, hs]; omega) | rfl)) rfl ?_
                intro _ w S
                exact p_nil (x_then ⟨_, rfl, _, _, _, upds_eq ⟨rfl, rfl, rfl, rfl, rfl, rfl, rfl, trivial⟩, S.pk [1, 0, 2, 3, 4] rfl⟩)
              · exact t_none
          · refine t_fork ?_ ?_
            · refine q_does (d_allocA S zvS) rfl ?_
              rintro _ w ⟨y10, rfl, S⟩
              have hS := S.pk [1, 2, 3] rfl
              refine ⟨hS, ?_⟩
              refine q_nil ?_
              refine t_fork ?_ ?_
              · refine q_does (d_call Try.func27 nm27 rfl rfl (l4sec_calls _ _ _ _ (by first | with_reducible assumption | (simp [cat, length_lsec, length_lback, length_lshown, length_lpub, length_ldig, length_join, hs]; done) | (simp [cat, length_lsec, length_lback, length_lshown, length_lpub, length_ldig, length_join, hs]; omega) | rfl))) rfl ?_
                rintro _ w ⟨rfl, hB⟩
                have S := S.below hB
                have hS := S.pk [1, 2, 3] rfl
                refine ⟨hS, ?_⟩
                refine q_nil ?_
                refine t_fork ?_ ?_
                · refine q_does (d_call Try.func28 nm28 rfl rfl (l4shown_calls _ _ (by first | with_reducible assumption | (simp [cat, length_lsec, length_lback, length_lshown, length_lpub, length_ldig, length_join, hs]; done) | (simp [cat, length_lsec, length_lback, length_lshown, length_lpub, length_ldig, length_join, hs]; omega) | rfl))) rfl ?_
                  rintro _ w ⟨rfl, hB⟩
                  have S := S.below hB
                  have hS := S.pk [1, 2, 3] rfl
                  refine ⟨hS, ?_⟩
                  refine q_nil ?_
                  refine t_sq ?_
                  refine q_does (d_allocA S zvS) rfl ?_
                  rintro _ w ⟨y9, rfl, S⟩
                  have hS := S.pk [2, 3, 4] rfl
                  refine ⟨hS, ?_⟩
                  refine q_does (d_storeW S 0 rfl rfl (by first | exact bv_one _ | exact sv_one _ | exact iv_one _ | with_reducible assumption | (refine One.mem ?_; repeat (first | exact One.bv _ | exact One.sv _ | exact One.iv _ | exact One.nil | exact One.cat0 | refine One.cat1 ?_ ?_ | refine One.cons rfl ?_ | refine One.append ?_ ?_))) sz29 (by first | with_reducible assumption | (simp [cat, length_lsec, length_lback, length_lshown, length_lpub, length_ldig, length_join, hs]; done) | (simp [cat, length_lsec, length_lback, length_lshown, length_lpub, length_ldig, length_join, hs]; omega) | rfl) rfl rfl (by first | with_reducible assumption | (simp [cat, length_lsec, length_lback, length_lshown, length_lpub, length_ldig, length_join, hs]; done) | (simp [cat, length_lsec, length_lback, length_lshown, length_lpub, length_ldig, length_join, hs]; omega) | rfl)) rfl ?_
                  intro _ w S
                  have hS := S.pk [2, 3, 4] rfl
                  refine ⟨hS, ?_⟩
                  refine q_nil ?_
                  refine t_stop ?_
                  refine p_does (d_storeW S 1 rfl rfl (by first | exact bv_one _ | exact sv_one _ | exact iv_one _ | with_reducible assumption | (refine One.mem ?_; repeat (first | exact One.bv _ | exact One.sv _ | exact One.iv _ | exact One.nil | exact One.cat0 | refine One.cat1 ?_ ?_ | refine One.cons rfl ?_ | refine One.append ?_ ?_))) sz29 (by first | with_reducible assumption | (simp [cat, length_lsec, length_lback, length_lshown, length_lpub, length_ldig, length_join, hs]; done) | (simp [cat, length_lsec, length_lback, length_lshown, length_lpub, length_ldig, length_join, hs]; omega) | rfl) rfl rfl (by first | with_reducible assumption | (simp [cat, length_lsec, length_lback, length_lshown, length_lpub, length_ldig, length_join, hs]; done) | (simp [cat, length_lsec, length_lback, length_lshown, length_lpub, length_ldig, length_join, hs]; omega) | rfl)) rfl ?_
                  intro _ w S
                  exact p_nil (x_then ⟨_, rfl, _, _, _, upds_eq ⟨rfl, rfl, rfl, rfl, rfl, rfl, rfl, trivial⟩, S.pk [0, 1, 2, 3, 4] rfl⟩)
                · refine t_fork ?_ ?_
                  · refine q_does (d_allocA S zvS) rfl ?_
                    rintro _ w ⟨y9, rfl, S⟩
                    have hS := S.pk [2, 3, 4] rfl
                    refine ⟨hS, ?_⟩
                    refine q_nil ?_
                    refine t_sq ?_
                    refine q_does (d_call Try.func28 nm28 rfl rfl (l4shown_calls _ _ (by first | with_reducible assumption | (simp [cat, length_lsec, length_lback, length_lshown, length_lpub, length_ldig, length_join, hs]; done) | (simp [cat, length_lsec, length_lback, length_lshown, length_lpub, length_ldig, length_join, hs]; omega) | rfl))) rfl ?_
                    rintro _ w ⟨rfl, hB⟩
                    have S := S.below hB
                    have hS := S.pk [2, 3, 4] rfl
                    refine ⟨hS, ?_⟩
                    refine q_does (d_storeW S 0 rfl rfl (by first | exact bv_one _ | exact sv_one _ | exact iv_one _ | with_reducible assumption | (refine One.mem ?_; repeat (first | exact One.bv _ | exact One.sv _ | exact One.iv _ | exact One.nil | exact One.cat0 | refine One.cat1 ?_ ?_ | refine One.cons rfl ?_ | refine One.append ?_ ?_))) sz29 (by first | with_reducible assumption | (simp [cat, length_lsec, length_lback, length_lshown, length_lpub, length_ldig, length_join, hs]; done) | (simp [cat, length_lsec, length_lback, length_lshown, length_lpub, length_ldig, length_join, hs]; omega) | rfl) rfl rfl (by first | with_reducible assumption | (simp [cat, length_lsec, length_lback, length_lshown, length_lpub, length_ldig, length_join, hs]; done) | (simp [cat, length_lsec, length_lback, length_lshown, length_lpub, length_ldig, length_join, hs]; omega) | rfl)) rfl ?_
                    intro _ w S
                    have hS := S.pk [2, 3, 4] rfl
                    refine ⟨hS, ?_⟩
                    refine q_nil ?_
                    refine t_stop ?_
                    refine p_does (d_storeW S 1 rfl rfl (by first | exact bv_one _ | exact sv_one _ | exact iv_one _ | with_reducible assumption | (refine One.mem ?_; repeat (first | exact One.bv _ | exact One.sv _ | exact One.iv _ | exact One.nil | exact One.cat0 | refine One.cat1 ?_ ?_ | refine One.cons rfl ?_ | refine One.append ?_ ?_))) sz29 (by first | with_reducible assumption | (simp [cat, length_lsec, length_lback, length_lshown, length_lpub, length_ldig, length_join, hs]; done) | (simp [cat, length_lsec, length_lback, length_lshown, length_lpub, length_ldig, length_join, hs]; omega) | rfl) rfl rfl (by first | with_reducible assumption | (simp [cat, length_lsec, length_lback, length_lshown, length_lpub, length_ldig, length_join, hs]; done) | (simp [cat, length_lsec, length_lback, length_lshown, length_lpub, length_ldig, length_join, hs]; omega) | rfl)) rfl ?_
                    intro _ w S
                    exact p_nil (x_then ⟨_, rfl, _, _, _, upds_eq ⟨rfl, rfl, rfl, rfl, rfl, rfl, rfl, trivial⟩, S.pk [0, 1, 2, 3, 4] rfl⟩)
                  · exact t_none
              · refine t_fork ?_ ?_
                · refine q_does (d_allocA S zvS) rfl ?_
                  rintro _ w ⟨y9, rfl, S⟩
                  have hS := S.pk [2, 3, 4] rfl
                  refine ⟨hS, ?_⟩
                  refine q_nil ?_
                  refine t_sq ?_
                  refine q_does (d_call Try.func27 nm27 rfl rfl (l4sec_calls _ _ _ _ (by first | with_reducible assumption | (simp [cat, length_lsec, length_lback, length_lshown, length_lpub, length_ldig, length_join, hs]; done) | (simp [cat, length_lsec, length_lback, length_lshown, length_lpub, length_ldig, length_join, hs]; omega) | rfl))) rfl ?_
                  rintro _ w ⟨rfl, hB⟩
                  have S := S.below hB
                  have hS := S.pk [2, 3, 4] rfl
                  refine ⟨hS, ?_⟩
                  refine q_does (d_call Try.func28 nm28 rfl rfl (l4shown_calls _ _ (by first | with_reducible assumption | (simp [cat, length_lsec, length_lback, length_lshown, length_lpub, length_ldig, length_join, hs]; done) | (simp [cat, length_lsec, length_lback, length_lshown, length_lpub, length_ldig, length_join, hs]; omega) | rfl))) rfl ?_
                  rintro _ w ⟨rfl, hB⟩
                  have S := S.below hB
                  have hS := S.pk [2, 3, 4] rfl
                  refine ⟨hS, ?_⟩
                  refine q_does (d_storeW S 0 rfl rfl (by first | exact bv_one _ | exact sv_one _ | exact iv_one _ | with_reducible assumption | (refine One.mem ?_; repeat (first | exact One.bv _ | exact One.sv _ | exact One.iv _ | exact One.nil | exact One.cat0 | refine One.cat1 ?_ ?_ | refine One.cons rfl ?_ | refine One.append ?_ ?_))) sz29 (by first | with_reducible assumption | (simp [cat, length_lsec, length_lback, length_lshown, length_lpub, length_ldig, length_join, hs]; done) | (simp [cat, length_lsec, length_lback, length_lshown, length_lpub, length_ldig, length_join, hs]; omega) | rfl) rfl rfl (by first | with_reducible assumption | (simp [cat, length_lsec, length_lback, length_lshown, length_lpub, length_ldig, length_join, hs]; done) | (simp [cat, length_lsec, length_lback, length_lshown, length_lpub, length_ldig, length_join, hs]; omega) | rfl)) rfl ?_
                  intro _ w S
                  have hS := S.pk [2, 3, 4] rfl
                  refine ⟨hS, ?_⟩
                  refine q_nil ?_
                  refine t_stop ?_
                  refine p_does (d_storeW S 1 rfl rfl (by first | exact bv_one _ | exact sv_one _ | exact iv_one _ | with_reducible assumption | (refine One.mem ?_; repeat (first | exact One.bv _ | exact One.sv _ | exact One.iv _ | exact One.nil | exact One.cat0 | refine One.cat1 ?_ ?_ | refine One.cons rfl ?_ | refine One.append ?_ ?_))) sz29 (by first | with_reducible assumption | (simp [cat, length_lsec, length_lback, length_lshown, length_lpub, length_ldig, length_join, hs]; done) | (simp [cat, length_lsec, length_lback, length_lshown, length_lpub, length_ldig, length_join, hs]; omega) | rfl) rfl rfl (by first | with_reducible assumption | (simp [cat, length_lsec, length_lback, length_lshown, length_lpub, length_ldig, length_join, hs]; done) | (simp [cat, length_lsec, length_lback, length_lshown, length_lpub, length_ldig, length_join, hs]; omega) | rfl)) rfl ?_
                  intro _ w S
                  exact p_nil (x_then ⟨_, rfl, _, _, _, upds_eq ⟨rfl, rfl, rfl, rfl, rfl, rfl, rfl, trivial⟩, S.pk [0, 1, 2, 3, 4] rfl⟩)
                · exact t_none
            · exact t_none
      · refine t_fork ?_ ?_
        · refine q_does (d_allocA S zvS) rfl ?_
          rintro _ w ⟨y9, rfl, S⟩
          have hS := S.pk [1, 2, 3] rfl
          refine ⟨hS, ?_⟩
          refine q_nil ?_
          refine t_fork ?_ ?_
          · refine q_does (d_call Try.func27 nm27 rfl rfl (l4sec_calls _ _ _ _ (by first | with_reducible assumption | (simp [cat, length_lsec, length_lback, length_lshown, length_lpub, length_ldig, length_join, hs]; done) | (simp [cat, length_lsec, length_lback, length_lshown, length_lpub, length_ldig, length_join, hs]; omega) | rfl))) rfl ?_
            rintro _ w ⟨rfl, hB⟩
            have S := S.below hB
            have hS := S.pk [1, 2, 3] rfl
            refine ⟨hS, ?_⟩
            refine q_nil ?_
            refine t_fork ?_ ?_
            · refine q_does (d_call Try.func27 nm27 rfl rfl (l4sec_calls _ _ _ _ (by first | with_reducible assumption | (simp [cat, length_lsec, length_lback, length_lshown, length_lpub, length_ldig, length_join, hs]; done) | (simp [cat, length_lsec, length_lback, length_lshown, length_lpub, length_ldig, length_join, hs]; omega) | rfl))) rfl ?_
              rintro _ w ⟨rfl, hB⟩
              have S := S.below hB
              have hS := S.pk [1, 2, 3] rfl
              refine ⟨hS, ?_⟩
              refine q_nil ?_
              refine t_fork ?_ ?_
              · refine q_does (d_call Try.func28 nm28 rfl rfl (l4shown_calls _ _ (by first | with_reducible assumption | (simp [cat, length_lsec, length_lback, length_lshown, length_lpub, length_ldig, length_join, hs]; done) | (simp [cat, length_lsec, length_lback, length_lshown, length_lpub, length_ldig, length_join, hs]; omega) | rfl))) rfl ?_
                rintro _ w ⟨rfl, hB⟩
                have S := S.below hB
                have hS := S.pk [1, 2, 3] rfl
                refine ⟨hS, ?_⟩
                refine q_nil ?_
                refine t_sq ?_
                refine q_does (d_allocA S zvS) rfl ?_
                rintro _ w ⟨y10, rfl, S⟩
                have hS := S.pk [2, 3, 4] rfl
                refine ⟨hS, ?_⟩
                refine q_does (d_storeW S 1 rfl rfl (by first | exact bv_one _ | exact sv_one _ | exact iv_one _ | with_reducible assumption | (refine One.mem ?_; repeat (first | exact One.bv _ | exact One.sv _ | exact One.iv _ | exact One.nil | exact One.cat0 | refine One.cat1 ?_ ?_ | refine One.cons rfl ?_ | refine One.append ?_ ?_))) sz29 (by first | with_reducible assumption | (simp [cat, length_lsec, length_lback, length_lshown, length_lpub, length_ldig, length_join, hs]; done) | (simp [cat, length_lsec, length_lback, length_lshown, length_lpub, length_ldig, length_join, hs]; omega) | rfl) rfl rfl (by first | with_reducible assumption | (simp [cat, length_lsec, length_lback, length_lshown, length_lpub, length_ldig, length_join, hs]; done) | (simp [cat, length_lsec, length_lback, length_lshown, length_lpub, length_ldig, length_join, hs]; omega) | rfl)) rfl ?_
                intro _ w S
                have hS := S.pk [2, 3, 4] rfl
                refine ⟨hS, ?_⟩
                refine q_nil ?_
                refine t_stop ?_
                refine p_does (d_storeW S 0 rfl rfl (by first | exact bv_one _ | exact sv_one _ | exact iv_one _ | with_reducible assumption | (refine One.mem ?_; repeat (first | exact One.bv _ | exact One.sv _ | exact One.iv _ | exact One.nil | exact One.cat0 | refine One.cat1 ?_ ?_ | refine One.cons rfl ?_ | refine One.append ?_ ?_))) sz29 (by first | with_reducible assumption | (simp [cat, length_lsec, length_lback, length_lshown, length_lpub, length_ldig, length_join, hs]; done) | (simp [cat, length_lsec, length_lback, length_lshown, length_lpub, length_ldig, length_join, hs]; omega) | rfl) rfl rfl (by first | with_reducible assumption | (simp [cat, length_lsec, length_lback, length_lshown, length_lpub, length_ldig, length_join, hs]; done) | (simp [cat, length_lsec, length_lback, length_lshown, length_lpub, length_ldig, length_join, hs]; omega) | rfl)) rfl ?_
                intro _ w S
                exact p_nil (x_then ⟨_, rfl, _, _, _, upds_eq ⟨rfl, rfl, rfl, rfl, rfl, rfl, rfl, trivial⟩, S.pk [1, 0, 2, 3, 4] rfl⟩)
              · refine t_fork ?_ ?_
                · refine q_does (d_allocA S zvS) rfl ?_
                  rintro _ w ⟨y10, rfl, S⟩
                  have hS := S.pk [2, 3, 4] rfl
                  refine ⟨hS, ?_⟩
                  refine q_nil ?_
                  refine t_sq ?_
                  refine q_does (d_call Try.func28 nm28 rfl rfl (l4shown_calls _ _ (by first | with_reducible assumption | (simp [cat, length_lsec, length_lback, length_lshown, length_lpub, length_ldig, length_join, hs]; done) | (simp [cat, length_lsec, length_lback, length_lshown, length_lpub, length_ldig, length_join, hs]; omega) | rfl))) rfl ?_
                  rintro _ w ⟨rfl, hB⟩
                  have S := S.below hB
                  have hS := S.pk [2, 3, 4] rfl
                  refine ⟨hS, ?_⟩
                  refine q_does (d_storeW S 1 rfl rfl (by first | exact bv_one _ | exact sv_one _ | exact iv_one _ | with_reducible assumption | (refine One.mem ?_; repeat (first | exact One.bv _ | exact One.sv _ | exact One.iv _ | exact One.nil | exact One.cat0 | refine One.cat1 ?_ ?_ | refine One.cons rfl ?_ | refine One.append ?_ ?_))) sz29 (by first | with_reducible assumption | (simp [cat, length_lsec, length_lback, length_lshown, length_lpub, length_ldig, length_join, hs]; done) | (simp [cat, length_lsec, length_lback, length_lshown, length_lpub, length_ldig, length_join, hs]; omega) | rfl) rfl rfl (by first | with_reducible assumption | (simp [cat, length_lsec, length_lback, length_lshown, length_lpub, length_ldig, length_join, hs]; done) | (simp [cat, length_lsec, length_lback, length_lshown, length_lpub, length_ldig, length_join, hs]; omega) | rfl)) rfl ?_
                  intro _ w S
                  have hS := S.pk [2, 3, 4] rfl
                  refine ⟨hS, ?_⟩
                  refine q_nil ?_
                  refine t_stop ?_
                  refine p_does (d_storeW S 0 rfl rfl (by first | exact bv_one _ | exact sv_one _ | exact iv_one _ | with_reducible assumption | (refine One.mem ?_; repeat (first | exact One.bv _ | exact One.sv _ | exact One.iv _ | exact One.nil | exact One.cat0 | refine One.cat1 ?_ ?_ | refine One.cons rfl ?_ | refine One.append ?_ ?_))) sz29 (by first | with_reducible assumption | (simp [cat, length_lsec, length_lback, length_lshown, length_lpub, length_ldig, length_join, hs]; done) | (simp [cat, length_lsec, length_lback, length_lshown, length_lpub, length_ldig, length_join, hs]; omega) | rfl) rfl rfl (by first | with_reducible assumption | (simp [cat, length_lsec, length_lback, length_lshown, length_lpub, length_ldig, length_join, hs]; done) | (simp [cat, length_lsec, length_lback, length_lshown, length_lpub, length_ldig, length_join, hs]; omega) | rfl)) rfl ?_
                  intro _ w S
                  exact p_nil (x_then ⟨_, rfl, _, _, _, upds_eq ⟨rfl, rfl, rfl, rfl, rfl, rfl, rfl, trivial⟩, S.pk [1, 0, 2, 3, 4] rfl⟩)
                · exact t_none
            · refine t_fork ?_ ?_
              · refine q_does (d_allocA S zvS) rfl ?_
                rintro _ w ⟨y10, rfl, S⟩
                have hS := S.pk [2, 3, 4] rfl
                refine ⟨hS, ?_⟩
                refine q_nil ?_
                refine t_sq ?_
                refine q_does (d_call Try.func27 nm27 rfl rfl (l4sec_calls _ _ _ _ (by first | with_reducible assumption | (simp [cat, length_lsec, length_lback, length_lshown, length_lpub, length_ldig, length_join, hs]; done) | (simp [cat, length_lsec, length_lback, length_lshown, length_lpub, length_ldig, length_join, hs]; omega) | rfl))) rfl ?_
                rintro _ w ⟨rfl, hB⟩
                have S := S.below hB
                have hS := S.pk [2, 3, 4] rfl
                refine ⟨hS, ?_⟩
                refine q_does (d_call Try.func28 nm28 rfl rfl (l4shown_calls _ _ (by first | with_reducible assumption | (simp [cat, length_lsec, length_lback, length_lshown, length_lpub, length_ldig, length_join, hs]; done) | (simp [cat, length_lsec, length_lback, length_lshown, length_lpub, length_ldig, length_join, hs]; omega) | rfl))) rfl ?_
                rintro _ w ⟨rfl, hB⟩
                have S := S.below hB
                have hS := S.pk [2, 3, 4] rfl
                refine ⟨hS, ?_⟩
                refine q_does (d_storeW S 1 rfl rfl (by first | exact bv_one _ | exact sv_one _ | exact iv_one _ | with_reducible assumption | (refine One.mem ?_; repeat (first | exact One.bv _ | exact One.sv _ | exact One.iv _ | exact One.nil | exact One.cat0 | refine One.cat1 ?_ ?_ | refine One.cons rfl ?_ | refine One.append ?_ ?_))) sz29 (by first | with_reducible assumption | (simp [cat, length_lsec, length_lback, length_lshown, length_lpub, length_ldig, length_join, hs]; done) | (simp [cat, length_lsec, length_lback, length_lshown, length_lpub, length_ldig, length_join, hs]; omega) | rfl) rfl rfl (by first | with_reducible assumption | (simp [cat, length_lsec, length_lback, length_lshown, length_lpub, length_ldig, length_join, hs]; done) | (simp [cat, length_lsec, length_lback, length_lshown, length_lpub, length_ldig, length_join, hs]; omega) | rfl)) rfl ?_
                intro _ w S
                have hS := S.pk [2, 3, 4] rfl
                refine ⟨hS, ?_⟩
                refine q_nil ?_
                refine t_stop ?_
                refine p_does (d_storeW S 0 rfl rfl (by first | exact bv_one _ | exact sv_one _ | exact iv_one _ | with_reducible assumption | (refine One.mem ?_; repeat (first | exact One.bv _ | exact One.sv _ | exact One.iv _ | exact One.nil | exact One.cat0 | refine One.cat1 ?_ ?_ | refine One.cons rfl ?_ | refine One.append ?_ ?_))) sz29 (by first | with_reducible assumption | (simp [cat, length_lsec, length_lback, length_lshown, length_lpub, length_ldig, length_join, hs]; done) | (simp [cat, length_lsec, length_lback, length_lshown, length_lpub, length_ldig, length_join, hs]; omega) | rfl) rfl rfl (by first | with_reducible assumption | (simp [cat, length_lsec, length_lback, length_lshown, length_lpub, length_ldig, length_join, hs]; done) | (simp [cat, length_lsec, length_lback, length_lshown, length_lpub, length_ldig, length_join, hs]; omega) | rfl)) rfl ?_
                intro _ w S
                exact p_nil (x_then ⟨_, rfl, _, _, _, upds_eq ⟨rfl, rfl, rfl, rfl, rfl, rfl, rfl, trivial⟩, S.pk [1, 0, 2, 3, 4] rfl⟩)
              · exact t_none
          · refine t_fork ?_ ?_
            · refine q_does (d_allocA S zvS) rfl ?_
              rintro _ w ⟨y10, rfl, S⟩
              have hS := S.pk [2, 3, 4] rfl
              refine ⟨hS, ?_⟩
              refine q_nil ?_
              refine t_sq ?_
              refine q_does (d_call Try.func27 nm27 rfl rfl (l4sec_calls _ _ _ _ (by first | with_reducible assumption | (simp [cat, length_lsec, length_lback, length_lshown, length_lpub, length_ldig, length_join, hs]; done) | (simp [cat, length_lsec, length_lback, length_lshown, length_lpub, length_ldig, length_join, hs]; omega) | rfl))) rfl ?_
              rintro _ w ⟨rfl, hB⟩
              have S := S.below hB
              have hS := S.pk [2, 3, 4] rfl
              refine ⟨hS, ?_⟩
              refine q_does (d_call Try.func27 nm27 rfl rfl (l4sec_calls _ _ _ _ (by first | with_reducible assumption | (simp [cat, length_lsec, length_lback, length_lshown, length_lpub, length_ldig, length_join, hs]; done) | (simp [cat, length_lsec, length_lback, length_lshown, length_lpub, length_ldig, length_join, hs]; omega) | rfl))) rfl ?_
              rintro _ w ⟨rfl, hB⟩
              have S := S.below hB
              have hS := S.pk [2, 3, 4] rfl
              refine ⟨hS, ?_⟩
              refine q_does (d_call Try.func28 nm28 rfl rfl (l4shown_calls _ _ (by first | with_reducible assumption | (simp [cat, length_lsec, length_lback, length_lshown, length_lpub, length_ldig, length_join, hs]; done) | (simp [cat, length_lsec, length_lback, length_lshown, length_lpub, length_ldig, length_join, hs]; omega) | rfl))) rfl ?_
              rintro _ w ⟨rfl, hB⟩
              have S := S.below hB
              have hS := S.pk [2, 3, 4] rfl
              refine ⟨hS, ?_⟩
              refine q_does (d_storeW S 1 rfl rfl (by first | exact bv_one _ | exact sv_one _ | exact iv_one _ | with_reducible assumption | (refine One.mem ?_; repeat (first | exact One.bv _ | exact One.sv _ | exact One.iv _ | exact One.nil | exact One.cat0 | refine One.cat1 ?_ ?_ | refine One.cons rfl ?_ | refine One.append ?_ ?_))) sz29 (by first | with_reducible assumption | (simp [cat, length_lsec, length_lback, length_lshown, length_lpub, length_ldig, length_join, hs]; done) | (simp [cat, length_lsec, length_lback, length_lshown, length_lpub, length_ldig, length_join, hs]; omega) | rfl) rfl rfl (by first | with_reducible assumption | (simp [cat, length_lsec, length_lback, length_lshown, length_lpub, length_ldig, length_join, hs]; done) | (simp [cat, length_lsec, length_lback, length_lshown, length_lpub, length_ldig, length_join, hs]; omega) | rfl)) rfl ?_
              intro _ w S
              have hS := S.pk [2, 3, 4] rfl
              refine ⟨hS, ?_⟩
              refine q_nil ?_
              refine t_stop ?_
              refine p_does (d_storeW S 0 rfl rfl (by first | exact bv_one _ | exact sv_one _ | exact iv_one _ | with_reducible assumption | (refine One.mem ?_; repeat (first | exact One.bv _ | exact One.sv _ | exact One.iv _ | exact One.nil | exact One.cat0 | refine One.cat1 ?_ ?_ | refine One.cons rfl ?_ | refine One.append ?_ ?_))) sz29 (by first | with_reducible assumption | (simp [cat, length_lsec, length_lback, length_lshown, length_lpub, length_ldig, length_join, hs]; done) | (simp [cat, length_lsec, length_lback, length_lshown, length_lpub, length_ldig, length_join, hs]; omega) | rfl) rfl rfl (by first | with_reducible assumption | (simp [cat, length_lsec, length_lback, length_lshown, length_lpub, length_ldig, length_join, hs]; done) | (simp [cat, length_lsec, length_lback, length_lshown, length_lpub, length_ldig, length_join, hs]; omega) | rfl)) rfl ?_
              intro _ w S
              exact p_nil (x_then ⟨_, rfl, _, _, _, upds_eq ⟨rfl, rfl, rfl, rfl, rfl, rfl, rfl, trivial⟩, S.pk [1, 0, 2, 3, 4] rfl⟩)
            · exact t_none
        · refine t_fork ?_ ?_
          · refine q_does (d_allocA S zvS) rfl ?_
            rintro _ w ⟨y10, rfl, S⟩
            have hS := S.pk [1, 2, 3] rfl
            refine ⟨hS, ?_⟩
            refine q_nil ?_
            refine t_fork ?_ ?_
            · refine q_does (d_call Try.func27 nm27 rfl rfl (l4sec_calls _ _ _ _ (by first | with_reducible assumption | (simp [cat, length_lsec, length_lback, length_lshown, length_lpub, length_ldig, length_join, hs]; done) | (simp [cat, length_lsec, length_lback, length_lshown, length_lpub, length_ldig, length_join, hs]; omega) | rfl))) rfl ?_
              rintro _ w ⟨rfl, hB⟩
              have S := S.below hB
              have hS := S.pk [1, 2, 3] rfl
              refine ⟨hS, ?_⟩
              refine q_nil ?_
              refine t_fork ?_ ?_
              · refine q_does (d_call Try.func27 nm27 rfl rfl (l4sec_calls _ _ _ _ (by first | with_reducible assumption | (simp [cat, length_lsec, length_lback, length_lshown, length_lpub, length_ldig, length_join, hs]; done) | (simp [cat, length_lsec, length_lback, length_lshown, length_lpub, length_ldig, length_join, hs]; omega) | rfl))) rfl ?_
                rintro _ w ⟨rfl, hB⟩
                have S := S.below hB
                have hS := S.pk [1, 2, 3] rfl
                refine ⟨hS, ?_⟩
                refine q_nil ?_
                refine t_fork ?_ ?_
                · refine q_does (d_call Try.func28 nm28 rfl rfl (l4shown_calls _ _ (by first | with_reducible assumption | (simp [cat, length_lsec, length_lback, length_lshown, length_lpub, length_ldig, length_join, hs]; done) | (simp [cat, length_lsec, length_lback, length_lshown, length_lpub, length_ldig, length_join, hs]; omega) | rfl))) rfl ?_
                  rintro _ w ⟨rfl, hB⟩
                  have S := S.below hB
                  have hS := S.pk [1, 2, 3] rfl
                  refine ⟨hS, ?_⟩
                  refine q_nil ?_
                  refine t_sq ?_
                  refine q_does (d_allocA S zvS) rfl ?_
                  rintro _ w ⟨y9, rfl, S⟩
                  have hS := S.pk [2, 3, 4] rfl
                  refine ⟨hS, ?_⟩
                  refine q_does (d_storeW S 0 rfl rfl (by first | exact bv_one _ | exact sv_one _ | exact iv_one _ | with_reducible assumption | (refine One.mem ?_; repeat (first | exact One.bv _ | exact One.sv _ | exact One.iv _ | exact One.nil | exact One.cat0 | refine One.cat1 ?_ ?_ | refine One.cons rfl ?_ | refine One.append ?_ ?_))) sz29 (by first | with_reducible assumption | (simp [cat, length_lsec, length_lback, length_lshown, length_lpub, length_ldig, length_join, hs]; done) | (simp [cat, length_lsec, length_lback, length_lshown, length_lpub, length_ldig, length_join, hs]; omega) | rfl) rfl rfl (by first | with_reducible assumption | (simp [cat, length_lsec, length_lback, length_lshown, length_lpub, length_ldig, length_join, hs]; done) | (simp [cat, length_lsec, length_lback, length_lshown, length_lpub, length_ldig, length_join, hs]; omega) | rfl)) rfl ?_
                  intro _ w S
                  have hS := S.pk [2, 3, 4] rfl
                  refine ⟨hS, ?_⟩
                  refine q_nil ?_
                  refine t_stop ?_
                  refine p_does (d_storeW S 1 rfl rfl (by first | exact bv_one _ | exact sv_one _ | exact iv_one _ | with_reducible assumption | (refine One.mem ?_; repeat (first | exact One.bv _ | exact One.sv _ | exact One.iv _ | exact One.nil | exact One.cat0 | refine One.cat1 ?_ ?_ | refine One.cons rfl ?_ | refine One.append ?_ ?_))) sz29 (by first | with_reducible assumption | (simp [cat, length_lsec, length_lback, length_lshown, length_lpub, length_ldig, length_join, hs]; done) | (simp [cat, length_lsec, length_lback, length_lshown, length_lpub, length_ldig, length_join, hs]; omega) | rfl) rfl rfl (by first | with_reducible assumption | (simp [cat, length_lsec, length_lback, length_lshown, length_lpub, length_ldig, length_join, hs]; done) | (simp [cat, length_lsec, length_lback, length_lshown, length_lpub, length_ldig, length_join, hs]; omega) | rfl)) rfl ?_
                  intro _ w S
                  exact p_nil (x_then ⟨_, rfl, _, _, _, upds_eq ⟨rfl, rfl, rfl, rfl, rfl, rfl, rfl, trivial⟩, S.pk [0, 1, 2, 3, 4] rfl⟩)
                · refine t_fork ?_ ?_
                  · refine q_does (d_allocA S zvS) rfl ?_
                    rintro _ w ⟨y9, rfl, S⟩
                    have hS := S.pk [2, 3, 4] rfl
                    refine ⟨hS, ?_⟩
                    refine q_nil ?_
                    refine t_sq ?_
                    refine q_does (d_call Try.func28 nm28 rfl rfl (l4shown_calls _ _ (by first | with_reducible assumption | (simp [cat, length_lsec, length_lback, length_lshown, length_lpub, length_ldig, length_join, hs]; done) | (simp [cat, length_lsec, length_lback, length_lshown, length_lpub, length_ldig, length_join, hs]; omega) | rfl))) rfl ?_
                    rintro _ w ⟨rfl, hB⟩
                    have S := S.below hB
                    have hS := S.pk [2, 3, 4] rfl
                    refine ⟨hS, ?_⟩
                    refine q_does (d_storeW S 0 rfl rfl (by first | exact bv_one _ | exact sv_one _ | exact iv_one _ | with_reducible assumption | (refine One.mem ?_; repeat (first | exact One.bv _ | exact One.sv _ | exact One.iv _ | exact One.nil | exact One.cat0 | refine One.cat1 ?_ ?_ | refine One.cons rfl ?_ | refine One.append ?_ ?_))) sz29 (by first | with_reducible assumption | (simp [cat, length_lsec, length_lback, length_lshown, length_lpub, length_ldig, length_join, hs]; done) | (simp [cat, length_lsec, length_lback, length_lshown, length_lpub, length_ldig, length_join, hs]; omega) | rfl) rfl rfl (by first | with_reducible assumption | (simp [cat, length_lsec, length_lback, length_lshown, length_lpub, length_ldig, length_join, hs]; done) | (simp [cat, length_lsec, length_lback, length_lshown, length_lpub, length_ldig, length_join, hs]; omega) | rfl)) rfl ?_
                    intro _ w S
                    have hS := S.pk [2, 3, 4] rfl
                    refine ⟨hS, ?_⟩
                    refine q_nil ?_
                    refine t_stop ?_
                    refine p_does (d_storeW S 1 rfl rfl (by first | exact bv_one _ | exact sv_one _ | exact iv_one _ | with_reducible assumption | (refine One.mem ?_; repeat (first | exact One.bv _ | exact One.sv _ | exact One.iv _ | exact One.nil | exact One.cat0 | refine One.cat1 ?_ ?_ | refine One.cons rfl ?_ | refine One.append ?_ ?_))) sz29 (by first | with_reducible assumption | (simp [cat, length_lsec, length_lback, length_lshown, length_lpub, length_ldig, length_join, hs]; done) | (simp [cat, length_lsec, length_lback, length_lshown, length_lpub, length_ldig, length_join, hs]; omega) | rfl) rfl rfl (by first | with_reducible assumption | (simp [cat, length_lsec, length_lback, length_lshown, length_lpub, length_ldig, length_join, hs]; done) | (simp [cat, length_lsec, length_lback, length_lshown, length_lpub, length_ldig, length_join, hs]; omega) | rfl)) rfl ?_
                    intro _ w S
                    exact p_nil (x_then ⟨_, rfl, _, _, _, upds_eq ⟨rfl, rfl, rfl, rfl, rfl, rfl, rfl, trivial⟩, S.pk [0, 1, 2, 3, 4] rfl⟩)
                  · exact t_none
              · refine t_fork ?_ ?_
                · refine q_does (d_allocA S zvS) rfl ?_
                  rintro _ w ⟨y9, rfl, S⟩
                  have hS := S.pk [2, 3, 4] rfl
                  refine ⟨hS, ?_⟩
                  refine q_nil ?_
                  refine t_sq ?_
                  refine q_does (d_call Try.func27 nm27 rfl rfl (l4sec_calls _ _ _ _ (by first | with_reducible assumption | (simp [cat, length_lsec, length_lback, length_lshown, length_lpub, length_ldig, length_join, hs]; done) | (simp [cat, length_lsec, length_lback, length_lshown, length_lpub, length_ldig, length_join, hs]; omega) | rfl))) rfl ?_
                  rintro _ w ⟨rfl, hB⟩
                  have S := S.below hB
                  have hS := S.pk [2, 3, 4] rfl
                  refine ⟨hS, ?_⟩
                  refine q_does (d_call Try.func28 nm28 rfl rfl (l4shown_calls _ _ (by first | with_reducible assumption | (simp [cat, length_lsec, length_lback, length_lshown, length_lpub, length_ldig, length_join, hs]; done) | (simp [cat, length_lsec, length_lback, length_lshown, length_lpub, length_ldig, length_join, hs]; omega) | rfl))) rfl ?_
                  rintro _ w ⟨rfl, hB⟩
                  have S := S.below hB
                  have hS := S.pk [2, 3, 4] rfl
                  refine ⟨hS, ?_⟩
                  refine q_does (d_storeW S 0 rfl rfl (by first | exact bv_one _ | exact sv_one _ | exact iv_one _ | with_reducible assumption | (refine One.mem ?_; repeat (first | exact One.bv _ | exact One.sv _ | exact One.iv _ | exact One.nil | exact One.cat0 | refine One.cat1 ?_ ?_ | refine One.cons rfl ?_ | refine One.append ?_ ?_))) sz29 (by first | with_reducible assumption | (simp [cat, length_lsec, length_lback, length_lshown, length_lpub, length_ldig, length_join, hs]; done) | (simp [cat, length_lsec, length_lback, length_lshown, length_lpub, length_ldig, length_join, hs]; omega) | rfl) rfl rfl (by first | with_reducible assumption | (simp [cat, length_lsec, length_lback, length_lshown, length_lpub, length_ldig, length_join, hs]; done) | (simp [cat, length_lsec, length_lback, length_lshown, length_lpub, length_ldig, length_join, hs]; omega) | rfl)) rfl ?_
                  intro _ w S
                  have hS := S.pk [2, 3, 4] rfl
                  refine ⟨hS, ?_⟩
                  refine q_nil ?_
                  refine t_stop ?_
                  refine p_does (d_storeW S 1 rfl rfl (by first | exact bv_one _ | exact sv_one _ | exact iv_one _ | with_reducible assumption | (refine One.mem ?_; repeat (first | exact One.bv _ | exact One.sv _ | exact One.iv _ | exact One.nil | exact One.cat0 | refine One.cat1 ?_ ?_ | refine One.cons rfl ?_ | refine One.append ?_ ?_))) sz29 (by first | with_reducible assumption | (simp [cat, length_lsec, length_lback, length_lshown, length_lpub, length_ldig, length_join, hs]; done) | (simp [cat, length_lsec, length_lback, length_lshown, length_lpub, length_ldig, length_join, hs]; omega) | rfl) rfl rfl (by first | with_reducible assumption | (simp [cat, length_lsec, length_lback, length_lshown, length_lpub, length_ldig, length_join, hs]; done) | (simp [cat, length_lsec, length_lback, length_lshown, length_lpub, length_ldig, length_join, hs]; omega) | rfl)) rfl ?_
                  intro _ w S
                  exact p_nil (x_then ⟨_, rfl, _, _, _, upds_eq ⟨rfl, rfl, rfl, rfl, rfl, rfl, rfl, trivial⟩, S.pk [0, 1, 2, 3, 4] rfl⟩)
                · exact t_none
            · refine t_fork ?_ ?_
              · refine q_does (d_allocA S zvS) rfl ?_
                rintro _ w ⟨y9, rfl, S⟩
                have hS := S.pk [2, 3, 4] rfl
                refine ⟨hS, ?_⟩
                refine q_nil ?_
                refine t_sq ?_
                refine q_does (d_call Try.func27 nm27 rfl rfl (l4sec_calls _ _ _ _ (by first | with_reducible assumption | (simp [cat, length_lsec, length_lback, length_lshown, length_lpub, length_ldig, length_join, hs]; done) | (simp [cat, length_lsec, length_lback, length_lshown, length_lpub, length_ldig, length_join, hs]; omega) | rfl))) rfl ?_
                rintro _ w ⟨rfl, hB⟩
                have S := S.below hB
                have hS := S.pk [2, 3, 4] rfl
                refine ⟨hS, ?_⟩
                refine q_does (d_call Try.func27 nm27 rfl rfl (l4sec_calls _ _ _ _ (by first | with_reducible assumption | (simp [cat, length_lsec, length_lback, length_lshown, length_lpub, length_ldig, length_join, hs]; done) | (simp [cat, length_lsec, length_lback, length_lshown, length_lpub, length_ldig, length_join, hs]; omega) | rfl))) rfl ?_
                rintro _ w ⟨rfl, hB⟩
                have S := S.below hB
                have hS := S.pk [2, 3, 4] rfl
                refine ⟨hS, ?_⟩
                refine q_does (d_call Try.func28 nm28 rfl rfl (l4shown_calls _ _ (by first | with_reducible assumption | (simp [cat, length_lsec, length_lback, length_lshown, length_lpub, length_ldig, length_join, hs]; done) | (simp [cat, length_lsec, length_lback, length_lshown, length_lpub, length_ldig, length_join, hs]; omega) | rfl))) rfl ?_
                rintro _ w ⟨rfl, hB⟩
                have S := S.below hB
                have hS := S.pk [2, 3, 4] rfl
                refine ⟨hS, ?_⟩
                refine q_does (d_storeW S 0 rfl rfl (by first | exact bv_one _ | exact sv_one _ | exact iv_one _ | with_reducible assumption | (refine One.mem ?_; repeat (first | exact One.bv _ | exact One.sv _ | exact One.iv _ | exact One.nil | exact One.cat0 | refine One.cat1 ?_ ?_ | refine One.cons rfl ?_ | refine One.append ?_ ?_))) sz29 (by first | with_reducible assumption | (simp [cat, length_lsec, length_lback, length_lshown, length_lpub, length_ldig, length_join, hs]; done) | (simp [cat, length_lsec, length_lback, length_lshown, length_lpub, length_ldig, length_join, hs]; omega) | rfl) rfl rfl (by first | with_reducible assumption | (simp [cat, length_lsec, length_lback, length_lshown, length_lpub, length_ldig, length_join, hs]; done) | (simp [cat, length_lsec, length_lback, length_lshown, length_lpub, length_ldig, length_join, hs]; omega) | rfl)) rfl ?_
                intro _ w S
                have hS := S.pk [2, 3, 4] rfl
                refine ⟨hS, ?_⟩
                refine q_nil ?_
                refine t_stop ?_
                refine p_does (d_storeW S 1 rfl rfl (by first | exact bv_one _ | exact sv_one _ | exact iv_one _ | with_reducible assumption | (refine One.mem ?_; repeat (first | exact One.bv _ | exact One.sv _ | exact One.iv _ | exact One.nil | exact One.cat0 | refine One.cat1 ?_ ?_ | refine One.cons rfl ?_ | refine One.append ?_ ?_))) sz29 (by first | with_reducible assumption | (simp [cat, length_lsec, length_lback, length_lshown, length_lpub, length_ldig, length_join, hs]; done) | (simp [cat, length_lsec, length_lback, length_lshown, length_lpub, length_ldig, length_join, hs]; omega) | rfl) rfl rfl (by first | with_reducible assumption | (simp [cat, length_lsec, length_lback, length_lshown, length_lpub, length_ldig, length_join, hs]; done) | (simp [cat, length_lsec, length_lback, length_lshown, length_lpub, length_ldig, length_join, hs]; omega) | rfl)) rfl ?_
                intro _ w S
                exact p_nil (x_then ⟨_, rfl, _, _, _, upds_eq ⟨rfl, rfl, rfl, rfl, rfl, rfl, rfl, trivial⟩, S.pk [0, 1, 2, 3, 4] rfl⟩)
              · exact t_none
          · exact t_none
    · rintro f w ⟨u, y9, y10, rfl, S⟩
      refine x_then (s_seq (s_plain ?_))
      refine p_val (e_move (v := .slice _ _ _) rfl) rfl ?_
      refine p_val (e_sl_arr rfl Try.underlying29 sz5) rfl ?_
      refine p_does (d_append S 2 rfl rfl Try.underlying33 el5 rfl rfl (S.rdBytes 0 rfl rfl (by first | with_reducible assumption | (simp [cat, length_lsec, length_lback, length_lshown, length_lpub, length_ldig, length_join, hs]; done) | (simp [cat, length_lsec, length_lback, length_lshown, length_lpub, length_ldig, length_join, hs]; omega) | rfl)) (by first | exact bv_one _ | exact sv_one _ | exact iv_one _ | with_reducible assumption | (refine One.mem ?_; repeat (first | exact One.bv _ | exact One.sv _ | exact One.iv _ | exact One.nil | exact One.cat0 | refine One.cat1 ?_ ?_ | refine One.cons rfl ?_ | refine One.append ?_ ?_))) (by omega) (by unfold maxLen; omega)) rfl ?_
      rintro _ w ⟨k38, c38, rfl, S⟩
      refine p_val (e_assign (v := .slice _ _ _) rfl) rfl ?_
      refine p_nil (x_then (s_seq (s_plain ?_)))
      refine p_val (e_move (v := .slice _ _ _) rfl) rfl ?_
      refine p_val (e_sl_arr rfl Try.underlying29 sz5) rfl ?_
      refine p_does (d_append S 2 rfl rfl Try.underlying33 el5 rfl rfl (S.rdBytes 1 rfl rfl (by first | with_reducible assumption | (simp [cat, length_lsec, length_lback, length_lshown, length_lpub, length_ldig, length_join, hs]; done) | (simp [cat, length_lsec, length_lback, length_lshown, length_lpub, length_ldig, length_join, hs]; omega) | rfl)) (by first | exact bv_one _ | exact sv_one _ | exact iv_one _ | with_reducible assumption | (refine One.mem ?_; repeat (first | exact One.bv _ | exact One.sv _ | exact One.iv _ | exact One.nil | exact One.cat0 | refine One.cat1 ?_ ?_ | refine One.cons rfl ?_ | refine One.append ?_ ?_))) (by omega) (by unfold maxLen; omega)) rfl ?_
      rintro _ w ⟨k41, c41, rfl, S⟩
      refine p_val (e_assign (v := .slice _ _ _) rfl) rfl ?_
      refine p_nil (x_then (s_seq (s_plain ?_)))
      refine p_val (e_assign (v := .int _ _) rfl) rfl ?_
      refine p_nil (x_then (s_block ?_))
      refine s_loopK (α := Nat) (ks := [some y9, some y10, k41, Kk5, some b2]) (ps := [Ex _ _, Ex _ _, Rw _ _ _ _ _, Rw _ _ _ _ _, Ex _ _]) [(1, .slice _ _ _), (2, .pointer _), (6, .slice _ _ _), (7, .int _ _)] ⟨rfl, rfl, rfl, rfl, trivial⟩ S (fun keep ks ps h f' w' => ∃ u Kk5 Ck5 m5 x5, f' = upds u ((5, .slice (at_ Kk5) (m5) Ck5) :: (11, .int .i64 (h : Int)) :: keep) ∧ (h ≤ 2) ∧ (m5 = 64 * g + 32 * h) ∧ (x5 = bv (pubB s g ++ pubI s g h)) ∧ St w0 w' [] [some y9, some y10, k41, Kk5, some b2] [(ps.getD 0 fun _ => True), (ps.getD 1 fun _ => True), (ps.getD 2 fun _ => True), Rw 5 1 (m5) Ck5 (x5), (ps.getD 4 fun _ => True)]) (fun h => 2 - h) (0) (⟨_, _, _, _, _, upds_eq ⟨rfl, rfl, rfl, rfl, rfl, rfl, trivial⟩, by first | omega | rfl | with_reducible assumption | (simp; done) | (simp; omega), by first | omega | rfl | with_reducible assumption | (simp; done) | (simp; omega), by simp [pubI], S⟩) ?_
      rintro h f w ⟨u, Kk5, Ck5, m5, x5, rfl, hh, rfl, rfl, S⟩
      refine s_seq (s_seq (s_plain ?_))
      refine p_val (e_move (v := .int _ _) rfl) rfl ?_
      refine p_val (e_lss rfl rfl) rfl ?_
      refine p_nil (x_then ?_)
      refine s_cond rfl (fun hc43 => ?_) (fun hc43 => ?_)
      · refine s_skip (x_then (s_seq (s_block (s_seq (s_plain ?_)))))
        refine p_val (e_loadW 4 rfl ag29 sz29 S rfl rfl (by first | with_reducible assumption | (simp [cat, length_lsec, length_lback, length_lshown, length_lpub, length_ldig, length_join, hs]; done) | (simp [cat, length_lsec, length_lback, length_lshown, length_lpub, length_ldig, length_join, hs]; omega) | rfl)) rfl ?_
        refine p_val (e_move (v := .int _ _) rfl) rfl ?_
        refine p_val (e_move (v := .int _ _) rfl) rfl ?_
        refine p_does (d_call Try.func27 nm27 rfl rfl (l4sec_calls _ _ _ _ (by first | with_reducible assumption | (simp [cat, length_lsec, length_lback, length_lshown, length_lpub, length_ldig, length_join, hs]; done) | (simp [cat, length_lsec, length_lback, length_lshown, length_lpub, length_ldig, length_join, hs]; omega) | rfl))) rfl ?_
        rintro _ w ⟨rfl, hB⟩
        have S := S.below hB
        refine p_does (d_call Try.func28 nm28 rfl rfl (l4shown_calls _ _ (by first | with_reducible assumption | (simp [cat, length_lsec, length_lback, length_lshown, length_lpub, length_ldig, length_join, hs]; done) | (simp [cat, length_lsec, length_lback, length_lshown, length_lpub, length_ldig, length_join, hs]; omega) | rfl))) rfl ?_
        rintro _ w ⟨rfl, hB⟩
        have S := S.below hB
        refine p_does (d_allocA S zvS) rfl ?_
        rintro _ w ⟨b12, rfl, S⟩
        refine p_does (d_storeW S 0 rfl rfl (by first | exact bv_one _ | exact sv_one _ | exact iv_one _ | with_reducible assumption | (refine One.mem ?_; repeat (first | exact One.bv _ | exact One.sv _ | exact One.iv _ | exact One.nil | exact One.cat0 | refine One.cat1 ?_ ?_ | refine One.cons rfl ?_ | refine One.append ?_ ?_))) sz29 (by first | with_reducible assumption | (simp [cat, length_lsec, length_lback, length_lshown, length_lpub, length_ldig, length_join, hs]; done) | (simp [cat, length_lsec, length_lback, length_lshown, length_lpub, length_ldig, length_join, hs]; omega) | rfl) rfl rfl (by first | with_reducible assumption | (simp [cat, length_lsec, length_lback, length_lshown, length_lpub, length_ldig, length_join, hs]; done) | (simp [cat, length_lsec, length_lback, length_lshown, length_lpub, length_ldig, length_join, hs]; omega) | rfl)) rfl ?_
        intro _ w S
        refine p_nil (x_then (s_plain ?_))
        refine p_val (e_move (v := .slice _ _ _) rfl) rfl ?_
        refine p_val (e_sl_arr rfl Try.underlying29 sz5) rfl ?_
        refine p_does (d_append S 4 rfl rfl Try.underlying33 el5 rfl rfl (S.rdBytes 0 rfl rfl (by first | with_reducible assumption | (simp [cat, length_lsec, length_lback, length_lshown, length_lpub, length_ldig, length_join, hs]; done) | (simp [cat, length_lsec, length_lback, length_lshown, length_lpub, length_ldig, length_join, hs]; omega) | rfl)) (by first | exact bv_one _ | exact sv_one _ | exact iv_one _ | with_reducible assumption | (refine One.mem ?_; repeat (first | exact One.bv _ | exact One.sv _ | exact One.iv _ | exact One.nil | exact One.cat0 | refine One.cat1 ?_ ?_ | refine One.cons rfl ?_ | refine One.append ?_ ?_))) (by omega) (by unfold maxLen; omega)) rfl ?_
        rintro _ w ⟨k53, c53, rfl, S⟩
        refine p_val (e_assign (v := .slice _ _ _) rfl) rfl ?_
        refine p_nil (x_in (x_then (s_plain ?_)))
        refine p_val (e_move (v := .int _ _) rfl) rfl ?_
        refine p_val (e_add64 rfl rfl (by omega)) rfl ?_
        refine p_val (e_assign (v := .int _ _) rfl) rfl ?_
        refine p_nil ?_
        refine x_round (h + 1) _ rfl ⟨_, _, _, _, _, upds_eq ⟨rfl, rfl, rfl, rfl, rfl, rfl, trivial⟩, by first | omega | rfl | with_reducible assumption | (simp; done) | (simp; omega), by first | omega | rfl | with_reducible assumption | (simp; done) | (simp; omega), by rw [← bv_append, pub_step s g h (by omega), List.append_assoc], S.pk [1, 2, 3, 4, 5] rfl⟩ (by omega)
      · refine s_exit (x_then_exit (x_then_exit (x_in_same (x_in (x_then (s_plain ?_))))))
        refine p_val (e_move (v := .int _ _) rfl) rfl ?_
        refine p_val (e_add64 rfl rfl (by omega)) rfl ?_
        refine p_val (e_assign (v := .int _ _) rfl) rfl ?_
        refine p_nil ?_
        refine x_round (g + 1) _ rfl ⟨_, _, _, _, _, _, _, _, _, upds_eq ⟨rfl, rfl, rfl, rfl, rfl, trivial⟩, by first | omega | rfl | with_reducible assumption | (simp; done) | (simp; omega), by first | omega | rfl | with_reducible assumption | (simp; done) | (simp; omega), by rw [show h = 2 by omega]; rfl, by first | omega | rfl | with_reducible assumption | (simp; done) | (simp; omega), by rw [← bv_append, ← bv_append, sig_step, List.append_assoc], S.pk [2, 3, 4] rfl⟩ (by omega)
  · refine s_exit (x_then_exit (x_then_exit (x_in_same (x_then (s_seq (s_plain ?_))))))
    obtain rfl : g = 64 := by omega
    have hbl := length_pubB s 64
    refine p_val (e_move (v := .slice _ _ _) rfl) rfl ?_
    refine p_does (d_lit1 S Try.underlying90 sz33 zv33 rfl (vs := [.slice _ _ _]) rfl rfl rfl (by decide)) rfl ?_
    rintro _ w ⟨b55, rfl, S⟩
    refine p_does (d_call Try.func19 nm19 rfl rfl (Ret.mono (R' := fun v w' => v = .agg (bv (lpub s)).toArray ∧ Below _ _ w') (join_calls _ 13 _ _ [_] (Parts.one (S.rdRw 0 rfl rfl) (S.rdRw 2 rfl rfl)) (by simp [joinB, len4, hbl]) (by simp)) (fun v w' ⟨hv, hB⟩ => ⟨by rw [hv]; unfold lpub; rfl, hB⟩))) rfl ?_
    rintro _ w ⟨rfl, hB⟩
    have S := S.below hB
    refine p_does (d_allocA S zvS) rfl ?_
    rintro _ w ⟨b13, rfl, S⟩
    refine p_does (d_storeW S 0 rfl rfl (by first | exact bv_one _ | exact sv_one _ | exact iv_one _ | with_reducible assumption | (refine One.mem ?_; repeat (first | exact One.bv _ | exact One.sv _ | exact One.iv _ | exact One.nil | exact One.cat0 | refine One.cat1 ?_ ?_ | refine One.cons rfl ?_ | refine One.append ?_ ?_))) sz29 (by first | with_reducible assumption | (simp [cat, length_lsec, length_lback, length_lshown, length_lpub, length_ldig, length_join, hs]; done) | (simp [cat, length_lsec, length_lback, length_lshown, length_lpub, length_ldig, length_join, hs]; omega) | rfl) rfl rfl (by first | with_reducible assumption | (simp [cat, length_lsec, length_lback, length_lshown, length_lpub, length_ldig, length_join, hs]; done) | (simp [cat, length_lsec, length_lback, length_lshown, length_lpub, length_ldig, length_join, hs]; omega) | rfl)) rfl ?_
    intro _ w S
    refine p_nil (x_then (s_seq (s_plain ?_)))
    refine p_val (e_loadW 4 rfl ag29 sz29 S rfl rfl (by first | with_reducible assumption | (simp [cat, length_lsec, length_lback, length_lshown, length_lpub, length_ldig, length_join, hs]; done) | (simp [cat, length_lsec, length_lback, length_lshown, length_lpub, length_ldig, length_join, hs]; omega) | rfl)) rfl ?_
    refine p_val (e_move (v := .slice _ _ _) rfl) rfl ?_
    refine p_does (d_call Try.func29 nm29 rfl rfl (lsign_calls _ _ _ _ _ _ (by first | with_reducible assumption | (simp [cat, length_lsec, length_lback, length_lshown, length_lpub, length_ldig, length_join, hs]; done) | (simp [cat, length_lsec, length_lback, length_lshown, length_lpub, length_ldig, length_join, hs]; omega) | rfl) (Rd.take_bv (S.rdOld R rfl) (Nat.min_le_left n 200)) (by omega))) rfl ?_
    rintro _ w ⟨k59, c59, rfl, T⟩
    have S := S.merge T rfl
    refine p_val (e_assign (v := .slice _ _ _) rfl) rfl ?_
    refine p_nil (x_then (s_seq (s_plain ?_)))
    refine p_val (e_move (v := .slice _ _ _) rfl) rfl ?_
    refine p_val (e_move (v := .slice _ _ _) rfl) rfl ?_
    refine p_does (d_call Try.func30 nm30 rfl rfl (lback_yes _ _ _ _ _ _ _ _ _ (Rd.take_bv (S.rdOld R rfl) (Nat.min_le_left n 200)) (by omega) (S.rdRw 0 rfl rfl) (S.capRw 0 rfl rfl) (by omega))) rfl ?_
    rintro _ w ⟨rfl, hB⟩
    have S := S.below hB
    refine p_val (e_move (v := .tuple _) rfl) rfl ?_
    refine p_val (e_extract rfl rfl) rfl ?_
    refine p_val (e_extract rfl rfl) rfl ?_
    refine p_does (d_allocA S zvS) rfl ?_
    rintro _ w ⟨b15, rfl, S⟩
    refine p_does (d_storeW S 0 rfl rfl (by first | exact bv_one _ | exact sv_one _ | exact iv_one _ | with_reducible assumption | (refine One.mem ?_; repeat (first | exact One.bv _ | exact One.sv _ | exact One.iv _ | exact One.nil | exact One.cat0 | refine One.cat1 ?_ ?_ | refine One.cons rfl ?_ | refine One.append ?_ ?_))) sz29 (by first | with_reducible assumption | (simp [cat, length_lsec, length_lback, length_lshown, length_lpub, length_ldig, length_join, hs]; done) | (simp [cat, length_lsec, length_lback, length_lshown, length_lpub, length_ldig, length_join, hs]; omega) | rfl) rfl rfl (by first | with_reducible assumption | (simp [cat, length_lsec, length_lback, length_lshown, length_lpub, length_ldig, length_join, hs]; done) | (simp [cat, length_lsec, length_lback, length_lshown, length_lpub, length_ldig, length_join, hs]; omega) | rfl)) rfl ?_
    intro _ w S
    refine p_val (e_assign (v := .int _ _) rfl) rfl ?_
    refine p_nil (x_then (s_seq ?_))
    refine s_cutK (ks := [some b15, k59, some b13, some b55, Kk6, Kk5, some b2]) (ps := [Ex _ _, Rw _ _ _ _ _, Ex _ _, Rw _ _ _ _ _, Rw _ _ _ _ _, Rw _ _ _ _ _, Ex _ _]) [] trivial S (fun keep ks ps f' w' => ∃ u bb, f' = upds u ((4, .bool bb) :: keep) ∧ (bb = true ↔ True) ∧ St w0 w' [] ks ps) ?_ ?_
    · refine s_drawTK (ks := [some b15, k59, some b13, some b55, Kk6, Kk5, some b2]) (ps := [Ex _ _, Rw _ _ _ _ _, Ex _ _, Rw _ _ _ _ _, Rw _ _ _ _ _, Rw _ _ _ _ _, Ex _ _]) S (.sq [(true, 0), (true, 2), (false, 1), (true, 3), (true, 4), (true, 5), (true, 6), (true, 7), (true, 8), (true, 9), (true, 10), (true, 11), (true, 12), (true, 13), (true, 14), (true, 15), (true, 16), (true, 17), (true, 18), (true, 19), (true, 20), (true, 21), (true, 22), (true, 23), (false, 24), (true, 25), (true, 26), (true, 27), (true, 29)] (.fork 28 (.sq [(false, 30), (false, 31), (true, 32), (true, 33), (true, 34), (false, 35), (true, 36)] .stop) (.fork 30 (.sq [(false, 28), (false, 31), (true, 32), (true, 33), (true, 34), (false, 35), (true, 36)] .stop) .none_))) [37] [37] mixed (by kernel_rfl) (by repeat (first | exact Calm.post _ _ _ | refine Calm.then ?_ _ | refine Calm.inB ?_ _)) (fun hS => ?_)
      have S := S.drew
      refine t_sq ?_
      refine q_val (fun w hS => e_loadW 6 rfl ag29 sz29 hS rfl rfl (by first | with_reducible assumption | (simp [cat, length_lsec, length_lback, length_lshown, length_lpub, length_ldig, length_join, hs]; done) | (simp [cat, length_lsec, length_lback, length_lshown, length_lpub, length_ldig, length_join, hs]; omega) | rfl)) rfl hS ?_
      refine q_val (fun w hS => e_loadW 2 rfl ag29 sz29 hS rfl rfl (by first | with_reducible assumption | (simp [cat, length_lsec, length_lback, length_lshown, length_lpub, length_ldig, length_join, hs]; done) | (simp [cat, length_lsec, length_lback, length_lshown, length_lpub, length_ldig, length_join, hs]; omega) | rfl)) rfl hS ?_
      refine q_does (d_call Try.func31 nm31 rfl rfl (lpub_calls _ _ (by first | with_reducible assumption | (simp [cat, length_lsec, length_lback, length_lshown, length_lpub, length_ldig, length_join, hs]; done) | (simp [cat, length_lsec, length_lback, length_lshown, length_lpub, length_ldig, length_join, hs]; omega) | rfl))) rfl ?_
      rintro _ w ⟨rfl, hB⟩
      have S := S.below hB
      have hS := S.pk [0, 1, 2, 3, 4, 5, 6] rfl
      refine ⟨hS, ?_⟩
      refine q_valB (fun w hS => EqT.sum eq29 gd29 rfl rfl (by first | with_reducible assumption | (simp [cat, length_lsec, length_lback, length_lshown, length_lpub, length_ldig, length_join, hs]; done) | (simp [cat, length_lsec, length_lback, length_lshown, length_lpub, length_ldig, length_join, hs]; omega) | rfl) (by first | with_reducible assumption | (simp [cat, length_lsec, length_lback, length_lshown, length_lpub, length_ldig, length_join, hs]; done) | (simp [cat, length_lsec, length_lback, length_lshown, length_lpub, length_ldig, length_join, hs]; omega) | rfl)) rfl hS (fun hg69 => ?_) (fun hg69 => ?_)
      · refine q_val (fun w hS => e_move (v := .bool _) rfl) rfl hS ?_
        refine qg_val rfl rfl rfl rfl rfl (fun w hS => e_move (v := .slice _ _ _) rfl) hS ?_
        refine qg_val rfl rfl rfl rfl rfl (fun w hS => e_bytesStr rfl Try.underlying33 Try.underlying5 Try.underlying9 ((hS.rdRw 1 rfl rfl))) hS ?_
        refine qg_val rfl rfl rfl rfl rfl (fun w hS => e_move (v := .slice _ _ _) rfl) hS ?_
        refine qg_val rfl rfl rfl rfl rfl (fun w hS => e_bytesStr rfl Try.underlying33 Try.underlying5 Try.underlying9 ((hS.rdRw 4 rfl rfl))) hS ?_
        refine qg_valB rfl rfl rfl rfl rfl (fun w hS => e_eqlT rfl rfl (by first | with_reducible assumption | exact lsig_lt _ _ | exact sigB_lt _ _ _) (by first | with_reducible assumption | exact lsig_lt _ _ | exact sigB_lt _ _ _)) hS (fun hg75 => ?_) (fun hg75 => ?_)
        · refine q_val (fun w hS => e_pick_t rfl rfl) rfl hS ?_
          refine q_val (fun w hS => e_move (v := .bool _) rfl) rfl hS ?_
          refine qg_val rfl rfl rfl rfl rfl (fun w hS => e_loadW 0 rfl ag29 sz29 hS rfl rfl (by first | with_reducible assumption | (simp [cat, length_lsec, length_lback, length_lshown, length_lpub, length_ldig, length_join, hs]; done) | (simp [cat, length_lsec, length_lback, length_lshown, length_lpub, length_ldig, length_join, hs]; omega) | rfl)) hS ?_
          refine qg_val rfl rfl rfl rfl rfl (fun w hS => e_loadW 2 rfl ag29 sz29 hS rfl rfl (by first | with_reducible assumption | (simp [cat, length_lsec, length_lback, length_lshown, length_lpub, length_ldig, length_join, hs]; done) | (simp [cat, length_lsec, length_lback, length_lshown, length_lpub, length_ldig, length_join, hs]; omega) | rfl)) hS ?_
          refine qg_valB rfl rfl rfl rfl rfl (fun w hS => EqT.sum eq29 gd29 rfl rfl (by first | with_reducible assumption | (simp [cat, length_lsec, length_lback, length_lshown, length_lpub, length_ldig, length_join, hs]; done) | (simp [cat, length_lsec, length_lback, length_lshown, length_lpub, length_ldig, length_join, hs]; omega) | rfl) (by first | with_reducible assumption | (simp [cat, length_lsec, length_lback, length_lshown, length_lpub, length_ldig, length_join, hs]; done) | (simp [cat, length_lsec, length_lback, length_lshown, length_lpub, length_ldig, length_join, hs]; omega) | rfl)) hS (fun hg80 => ?_) (fun hg80 => ?_)
          · refine q_val (fun w hS => e_pick_t rfl rfl) rfl hS ?_
            refine q_val (fun w hS => e_move (v := .bool _) rfl) rfl hS ?_
            refine qg_val rfl rfl rfl rfl rfl (fun w hS => e_move (v := .int _ _) rfl) hS ?_
            refine qg_valB rfl rfl rfl rfl rfl (fun w hS => e_eql rfl rfl) hS (fun hg84 => ?_) (fun hg84 => ?_)
            · refine q_val (fun w hS => e_pick_t rfl rfl) rfl hS ?_
              refine q_val (fun w hS => e_move (v := .bool _) rfl) rfl hS ?_
              refine qg_val rfl rfl rfl rfl rfl (fun w hS => e_loadW 2 rfl ag29 sz29 hS rfl rfl (by first | with_reducible assumption | (simp [cat, length_lsec, length_lback, length_lshown, length_lpub, length_ldig, length_join, hs]; done) | (simp [cat, length_lsec, length_lback, length_lshown, length_lpub, length_ldig, length_join, hs]; omega) | rfl)) hS ?_
              refine qg_val rfl rfl rfl rfl rfl (fun w hS => e_move (v := .slice _ _ _) rfl) hS ?_
              refine qg_val rfl rfl rfl rfl rfl (fun w hS => e_move (v := .slice _ _ _) rfl) hS ?_
              refine qg_does rfl rfl rfl rfl rfl (d_call Try.func32 nm32 rfl rfl (verify_yes _ _ _ _ _ _ _ _ _ _ (by first | with_reducible assumption | (simp [cat, length_lsec, length_lback, length_lshown, length_lpub, length_ldig, length_join, hs]; done) | (simp [cat, length_lsec, length_lback, length_lshown, length_lpub, length_ldig, length_join, hs]; omega) | rfl) (Rd.take_bv (S.rdOld R rfl) (Nat.min_le_left n 200)) (by omega) (S.rdRw 1 rfl rfl) (S.capRw 1 rfl rfl) (by omega))) ?_
              rintro _ w ⟨rfl, hB⟩
              have S := S.below hB
              have hS := S.pk [0, 1, 2, 3, 4, 5, 6] rfl
              refine ⟨hS, ?_⟩
              rcases Classical.em (lback (l.take (min n 200)) (lsig s (l.take (min n 200))) = lpub s) with hg90 | hg90
              · rw [decide_eq_true hg90]
                refine q_val (fun w hS => e_pick_t rfl rfl) rfl hS ?_
                refine q_val (fun w hS => e_move (v := .bool _) rfl) rfl hS ?_
                refine qg_val rfl rfl rfl rfl rfl (fun w hS => e_move (v := .slice _ _ _) rfl) hS ?_
                refine qg_val rfl rfl rfl rfl rfl (fun w hS => e_move (v := .slice _ _ _) rfl) hS ?_
                refine q_nil ?_
                refine t_fork ?_ ?_
                · refine qg_does rfl rfl rfl rfl rfl (d_call Try.func33 nm33 rfl rfl (ldig_calls _ _ _ _ _ (Rd.take_bv (S.rdOld R rfl) (Nat.min_le_left n 200)) (by omega))) ?_
                  rintro _ w ⟨rfl, hB⟩
                  have S := S.below hB
                  have hS := S.pk [0, 1, 2, 3, 4, 5, 6] rfl
                  refine ⟨hS, ?_⟩
                  refine q_nil ?_
                  refine t_sq ?_
                  refine qg_does rfl rfl rfl rfl rfl (d_lit1 S Try.underlying90 sz33 zv33 rfl (vs := [.slice _ _ _]) rfl rfl rfl (by decide)) ?_
                  rintro _ w ⟨y96, rfl, S⟩
                  have hS := S.pk [1, 2, 3, 4, 5, 6, 7] rfl
                  refine ⟨hS, ?_⟩
                  refine qg_does rfl rfl rfl rfl rfl (d_call Try.func19 nm19 rfl rfl (join_calls _ _ _ _ [_] (Parts.one (S.rdRw 0 rfl rfl) (Rd.take_bv (S.rdOld R rfl) (Nat.min_le_left n 200))) (by first | (simp [joinB, len4, cat, length_lsec, length_lback, length_lshown, length_lpub, length_ldig, length_join, hs]; done) | (simp [joinB, len4, cat, length_lsec, length_lback, length_lshown, length_lpub, length_ldig, length_join, hs]; omega)) (by simp))) ?_
                  rintro _ w ⟨rfl, hB⟩
                  have S := S.below hB
                  have hS := S.pk [1, 2, 3, 4, 5, 6, 7] rfl
                  refine ⟨hS, ?_⟩
                  refine qg_valB rfl rfl rfl rfl rfl (fun w hS => EqT.sum eq29 gd29 rfl rfl (by first | with_reducible assumption | (simp [cat, length_lsec, length_lback, length_lshown, length_lpub, length_ldig, length_join, hs]; done) | (simp [cat, length_lsec, length_lback, length_lshown, length_lpub, length_ldig, length_join, hs]; omega) | rfl) (by first | with_reducible assumption | (simp [cat, length_lsec, length_lback, length_lshown, length_lpub, length_ldig, length_join, hs]; done) | (simp [cat, length_lsec, length_lback, length_lshown, length_lpub, length_ldig, length_join, hs]; omega) | rfl)) hS (fun hg98 => ?_) (fun hg98 => ?_)
                  · refine q_val (fun w hS => e_pick_t rfl rfl) rfl hS ?_
                    refine q_val (fun w hS => e_move (v := .bool _) rfl) rfl hS ?_
                    refine qg_does rfl rfl rfl rfl rfl (d_call Try.func34 nm34 rfl rfl (l4awake_calls _)) ?_
                    rintro _ w ⟨rfl, hB⟩
                    have S := S.below hB
                    have hS := S.pk [1, 2, 3, 4, 5, 6, 7] rfl
                    refine ⟨hS, ?_⟩
                    refine q_val (fun w hS => e_pick_t rfl rfl) rfl hS ?_
                    refine q_nil ?_
                    refine t_stop ?_
                    refine p_val (e_assign (v := .bool _) rfl) rfl ?_
                    exact p_nil (x_then ⟨_, rfl, _, _, upds_eq ⟨rfl, trivial⟩, by first | (simp only [decide_eq_true_eq, eq_self, true_iff, iff_true, iff_false, Bool.false_eq_true, false_iff, ge_iff_le, gt_iff_lt, true_and, and_true, false_and, and_false, true_or, or_true, false_or, or_false, not_true_eq_false, not_false_eq_true]; omega) | simp | omega | simp_all, S.pk [1, 2, 3, 4, 5, 6, 7] rfl⟩)
                  · exact False.elim (hg98 rfl)
                · refine t_fork ?_ ?_
                  · refine qg_does rfl rfl rfl rfl rfl (d_lit1 S Try.underlying90 sz33 zv33 rfl (vs := [.slice _ _ _]) rfl rfl rfl (by decide)) ?_
                    rintro _ w ⟨y96, rfl, S⟩
                    have hS := S.pk [1, 2, 3, 4, 5, 6, 7] rfl
                    refine ⟨hS, ?_⟩
                    refine q_nil ?_
                    refine t_sq ?_
                    refine qg_does rfl rfl rfl rfl rfl (d_call Try.func33 nm33 rfl rfl (ldig_calls _ _ _ _ _ (Rd.take_bv (S.rdOld R rfl) (Nat.min_le_left n 200)) (by omega))) ?_
                    rintro _ w ⟨rfl, hB⟩
                    have S := S.below hB
                    have hS := S.pk [1, 2, 3, 4, 5, 6, 7] rfl
                    refine ⟨hS, ?_⟩
                    refine qg_does rfl rfl rfl rfl rfl (d_call Try.func19 nm19 rfl rfl (join_calls _ _ _ _ [_] (Parts.one (S.rdRw 0 rfl rfl) (Rd.take_bv (S.rdOld R rfl) (Nat.min_le_left n 200))) (by first | (simp [joinB, len4, cat, length_lsec, length_lback, length_lshown, length_lpub, length_ldig, length_join, hs]; done) | (simp [joinB, len4, cat, length_lsec, length_lback, length_lshown, length_lpub, length_ldig, length_join, hs]; omega)) (by simp))) ?_
                    rintro _ w ⟨rfl, hB⟩
                    have S := S.below hB
                    have hS := S.pk [1, 2, 3, 4, 5, 6, 7] rfl
                    refine ⟨hS, ?_⟩
                    refine qg_valB rfl rfl rfl rfl rfl (fun w hS => EqT.sum eq29 gd29 rfl rfl (by first | with_reducible assumption | (simp [cat, length_lsec, length_lback, length_lshown, length_lpub, length_ldig, length_join, hs]; done) | (simp [cat, length_lsec, length_lback, length_lshown, length_lpub, length_ldig, length_join, hs]; omega) | rfl) (by first | with_reducible assumption | (simp [cat, length_lsec, length_lback, length_lshown, length_lpub, length_ldig, length_join, hs]; done) | (simp [cat, length_lsec, length_lback, length_lshown, length_lpub, length_ldig, length_join, hs]; omega) | rfl)) hS (fun hg98 => ?_) (fun hg98 => ?_)
                    · refine q_val (fun w hS => e_pick_t rfl rfl) rfl hS ?_
                      refine q_val (fun w hS => e_move (v := .bool _) rfl) rfl hS ?_
                      refine qg_does rfl rfl rfl rfl rfl (d_call Try.func34 nm34 rfl rfl (l4awake_calls _)) ?_
                      rintro _ w ⟨rfl, hB⟩
                      have S := S.below hB
                      have hS := S.pk [1, 2, 3, 4, 5, 6, 7] rfl
                      refine ⟨hS, ?_⟩
                      refine q_val (fun w hS => e_pick_t rfl rfl) rfl hS ?_
                      refine q_nil ?_
                      refine t_stop ?_
                      refine p_val (e_assign (v := .bool _) rfl) rfl ?_
                      exact p_nil (x_then ⟨_, rfl, _, _, upds_eq ⟨rfl, trivial⟩, by first | (simp only [decide_eq_true_eq, eq_self, true_iff, iff_true, iff_false, Bool.false_eq_true, false_iff, ge_iff_le, gt_iff_lt, true_and, and_true, false_and, and_false, true_or, or_true, false_or, or_false, not_true_eq_false, not_false_eq_true]; omega) | simp | omega | simp_all, S.pk [1, 2, 3, 4, 5, 6, 7] rfl⟩)
                    · exact False.elim (hg98 rfl)
                  · exact t_none
              · exact False.elim (hg90 (back_sign _ _))
            · exact False.elim (hg84 rfl)
          · exact False.elim (hg80 (back_sign _ _))
        · exact False.elim (hg75 rfl)
      · exact False.elim (hg69 rfl)
    · rintro f w ⟨u, b4, rfl, hb4, S⟩
      refine x_then (s_ret ?_)
      exact post1 (v := .bool _) Try.results4 rfl (⟨by rw [hb4.2 trivial], S.to_below⟩)
end Go.Proofs.Ytdhfiamgmokfbaa
