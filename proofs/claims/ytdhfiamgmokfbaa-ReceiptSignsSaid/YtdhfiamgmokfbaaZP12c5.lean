/- Own texts, one behind the other: walks and laws that the statement needs. They prove no statement by themselves. -/
import Derived.Test.YtdhfiamgmokfbaaZP12c4
import Derived.Test.YtdhfiamgmokfbaaZP12c1
import Derived.OpenShut
import Derived.Deep.Slices
import Derived.Test.YtdhfiamgmokfbaaZP12c2
/- Lamport's law on signatures. It proves no statement by itself. -/
set_option linter.unusedSimpArgs false
set_option linter.unusedVariables false
set_option maxRecDepth 100000
set_option maxHeartbeats 4000000
namespace Go.Proofs.Ytdhfiamgmokfbaa
open Go Go.RowKit E
theorem sigB_lt (s d : List Nat) : ∀ i, ∀ x ∈ sigB s d i, x < 256
  | 0, x, h => by simp [sigB] at h
  | i + 1, x, h => by
    rw [sigB] at h
    rcases List.mem_append.1 h with h | h
    · rcases List.mem_append.1 h with h | h
      · exact sigB_lt s d i x h
      · exact join_lt _ _ x h
    · exact join_lt _ _ x h
theorem lsig_lt (s l : List Nat) : ∀ x ∈ lsig s l, x < 256 := sigB_lt s _ 64
theorem length_lsig (s l : List Nat) : (lsig s l).length = 4096 := length_sigB _ _ 64
theorem sig_step (s d : List Nat) (i : Nat) : sigB s d (i + 1) = sigB s d i ++ (lsec s (i : Int) ((lbit d i : Nat) : Int) ++ lshown (lsec s (i : Int) (1 - ((lbit d i : Nat) : Int)))) := by
  have h := lbit_lt d i
  rw [sigB, sigS, sigO, show (((lbit d i : Nat) : Int)) % 2 = ((lbit d i : Nat) : Int) by omega, show (1 - ((lbit d i : Nat) : Int)) % 2 = 1 - ((lbit d i : Nat) : Int) by omega, List.append_assoc]
theorem pub_step (s : List Nat) (i h : Nat) (hh : h < 2) : pubI s i (h + 1) = pubI s i h ++ lshown (lsec s (i : Int) (h : Int)) := by
  rw [pubI, show ((h : Nat) : Int) % 2 = ((h : Nat) : Int) by omega]
theorem lsigns_calls (w0 : World) (s : List Nat) (A : Option Addr) (n c : Nat) (l : List Nat) (hs : s.length = 32) (R : Rd w0 1 A n (bv l)) (hc : n ≤ c) :
    Ret Try.prog 4 [.agg (bv s).toArray, .slice A n c] w0 fun v w' => v = .bool true ∧ Below w0.heap.size w0 w' := by
  refine enter Try.func4 rfl Try.ntmps4 (Nat.le_of_ble_eq_true rfl) ?_
  have S := St.init w0
  refine s_seq (s_plain ?_)
  refine p_does (d_boxA S rfl) rfl ?_
  rintro _ w ⟨b2, rfl, S⟩
  refine p_val (e_assign (v := .bool _) rfl) rfl ?_
  refine p_nil (x_then (s_seq (s_plain ?_)))
  refine p_val (e_move (v := .slice _ _ _) rfl) rfl ?_
  refine p_does (d_call Try.func25 nm25 rfl rfl (cut_calls _ _ _ _ (by omega))) rfl ?_
  rintro _ w ⟨rfl, hB⟩
  have S := S.below hB
  refine p_val (e_assign (v := .slice _ _ _) rfl) rfl ?_
  refine p_nil (x_then (s_seq (s_plain ?_)))
  refine p_val (e_assign (v := .slice _ _ _) rfl) rfl ?_
  refine p_val (e_assign (v := .slice _ _ _) rfl) rfl ?_
  refine p_nil (x_then (s_seq (s_seq (s_plain ?_))))
  refine p_val (e_assign (v := .int _ _) rfl) rfl ?_
  refine p_nil (x_then (s_block ?_))
  have S := S.addNil 5 1
  have S := S.addNil 5 1
  refine s_loopK (α := Nat) (ks := [none, none, some b2]) (ps := [Rw _ _ _ _ _, Rw _ _ _ _ _, Ex _ _]) [(1, .slice _ _ _), (2, .pointer _)] ⟨rfl, rfl, trivial⟩ S (fun keep ks ps g f' w' => ∃ u Kk6 Ck6 Kk5 Ck5 m5 x5 m6 x6, f' = upds u ((5, .slice (at_ Kk5) (m5) Ck5) :: (6, .slice (at_ Kk6) (m6) Ck6) :: (7, .int .i64 (g : Int)) :: keep) ∧ (g ≤ 64) ∧ (m5 = 64 * g) ∧ (x5 = bv (pubB s g)) ∧ (m6 = 64 * g) ∧ (x6 = bv (sigB s (ldig (l.take (min n 200))) g)) ∧ St w0 w' [] [Kk6, Kk5, some b2] [Rw 5 1 (m6) Ck6 (x6), Rw 5 1 (m5) Ck5 (x5), (ps.getD 2 fun _ => True)]) (fun g => 64 - g) (0) (⟨_, _, _, _, _, _, _, _, _, upds_eq ⟨rfl, rfl, rfl, rfl, rfl, trivial⟩, by first | omega | rfl | with_reducible assumption | (simp; done) | (simp; omega), by first | omega | rfl | with_reducible assumption | (simp; done) | (simp; omega), by first | omega | rfl | with_reducible assumption | (simp; done) | (simp; omega), by first | omega | rfl | with_reducible assumption | (simp; done) | (simp; omega), by first | omega | rfl | with_reducible assumption | (simp; done) | (simp; omega), S⟩) ?_
  rintro g f w ⟨u, Kk6, Ck6, Kk5, Ck5, m5, x5, m6, x6, rfl, hg, rfl, rfl, rfl, rfl, S⟩
  refine s_seq (s_seq (s_plain ?_))
  refine p_val (e_move (v := .int _ _) rfl) rfl ?_
  refine p_val (e_lss rfl rfl) rfl ?_
  refine p_nil (x_then ?_)
  refine s_cond rfl (fun hc20 => ?_) (fun hc20 => ?_)
  · refine s_skip (x_then (s_seq (s_block (s_seq (s_plain ?_)))))
    refine p_val (e_move (v := .slice _ _ _) rfl) rfl ?_
    refine p_val (e_move (v := .int _ _) rfl) rfl ?_
    refine p_does (d_call Try.func26 nm26 rfl rfl (l4bit_calls _ _ _ _ _ _ (Rd.take_bv (S.rdOld R rfl) (Nat.min_le_left n 200)) (by omega) (by omega))) rfl ?_
    rintro _ w ⟨rfl, hB⟩
    have S := S.below hB
    refine p_val (e_assign (v := .int _ _) rfl) rfl ?_
    refine p_nil (x_then (s_seq ?_))
    have hbl := lbit_lt (ldig (l.take (min n 200))) g
    refine s_cutK (ks := [Kk6, Kk5, some b2]) (ps := [Rw _ _ _ _ _, Rw _ _ _ _ _, Ex _ _]) [(1, .slice _ _ _), (2, .pointer _), (5, .slice _ _ _), (6, .slice _ _ _), (7, .int _ _)] ⟨rfl, rfl, rfl, rfl, rfl, trivial⟩ S (fun keep ks ps f' w' => ∃ u y9 y10, f' = upds u ((9, .pointer (some ⟨y9, 0, none⟩)) :: (10, .pointer (some ⟨y10, 0, none⟩)) :: keep) ∧ St w0 w' [] [some y9, some y10, Kk6, Kk5, some b2] [Ex (bv (lsec s (g : Int) ((lbit (ldig (l.take (min n 200))) g : Nat) : Int))).toArray 29, Ex (bv (lshown (lsec s (g : Int) (1 - ((lbit (ldig (l.take (min n 200))) g : Nat) : Int))))).toArray 29, (ps.getD 0 fun _ => True), (ps.getD 1 fun _ => True), (ps.getD 2 fun _ => True)]) ?_ ?_
    · refine s_drawTK (ks := [Kk6, Kk5, some b2]) (ps := [Rw _ _ _ _ _, Rw _ _ _ _ _, Ex _ _]) S (.sq [(true, 0), (true, 1), (true, 2), (true, 4), (true, 5), (true, 6), (true, 7)] (.fork 3 (.fork 8 (.fork 9 (.fork 10 (.sq [(false, 11), (false, 12)] .stop) (.fork 11 (.sq [(false, 10), (false, 12)] .stop) .none_)) (.fork 10 (.fork 9 (.sq [(false, 11), (false, 12)] .stop) (.fork 11 (.sq [(false, 9), (false, 12)] .stop) .none_)) (.fork 11 (.fork 9 (.sq [(false, 10), (false, 12)] .stop) (.fork 10 (.sq [(false, 9), (false, 12)] .stop) .none_)) .none_))) (.fork 10 (.fork 8 (.fork 9 (.sq [(false, 11), (false, 12)] .stop) (.fork 11 (.sq [(false, 9), (false, 12)] .stop) .none_)) (.fork 11 (.sq [(false, 8), (false, 9), (false, 12)] .stop) .none_)) (.fork 11 (.fork 8 (.fork 9 (.sq [(false, 10), (false, 12)] .stop) (.fork 10 (.sq [(false, 9), (false, 12)] .stop) .none_)) (.fork 10 (.sq [(false, 8), (false, 9), (false, 12)] .stop) .none_)) .none_))) (.fork 10 (.fork 3 (.fork 8 (.fork 9 (.sq [(false, 11), (false, 12)] .stop) (.fork 11 (.sq [(false, 9), (false, 12)] .stop) .none_)) (.fork 11 (.sq [(false, 8), (false, 9), (false, 12)] .stop) .none_)) (.fork 11 (.sq [(false, 3), (false, 8), (false, 9), (false, 12)] .stop) .none_)) (.fork 11 (.fork 3 (.fork 8 (.fork 9 (.sq [(false, 10), (false, 12)] .stop) (.fork 10 (.sq [(false, 9), (false, 12)] .stop) .none_)) (.fork 10 (.sq [(false, 8), (false, 9), (false, 12)] .stop) .none_)) (.fork 10 (.sq [(false, 3), (false, 8), (false, 9), (false, 12)] .stop) .none_)) .none_)))) [13] [13] mixed (by kernel_rfl) (by repeat (first | exact Calm.post _ _ _ | refine Calm.then ?_ _ | refine Calm.inB ?_ _)) (fun hS => ?_)
      have S := S.drew
      refine t_sq ?_
      refine q_val (fun w hS => e_loadW 2 rfl ag29 sz29 hS rfl rfl (by first | with_reducible assumption | (simp [cat, length_lsec, length_lback, length_lshown, length_lpub, length_ldig, length_join, hs]; done) | (simp [cat, length_lsec, length_lback, length_lshown, length_lpub, length_ldig, length_join, hs]; omega) | rfl)) rfl hS ?_
      refine q_val (fun w hS => e_move (v := .int _ _) rfl) rfl hS ?_
      refine q_val (fun w hS => e_move (v := .int _ _) rfl) rfl hS ?_
      refine q_val (fun w hS => e_loadW 2 rfl ag29 sz29 hS rfl rfl (by first | with_reducible assumption | (simp [cat, length_lsec, length_lback, length_lshown, length_lpub, length_ldig, length_join, hs]; done) | (simp [cat, length_lsec, length_lback, length_lshown, length_lpub, length_ldig, length_join, hs]; omega) | rfl)) rfl hS ?_
      refine q_val (fun w hS => e_move (v := .int _ _) rfl) rfl hS ?_
      refine q_val (fun w hS => e_move (v := .int _ _) rfl) rfl hS ?_
      refine q_val (fun w hS => e_sub64 rfl rfl (by omega)) rfl hS ?_
      refine q_nil ?_
      refine t_fork ?_ ?_
      · refine q_does (d_call Try.func27 nm27 rfl rfl (l4sec_calls _ _ _ _ (by first | with_reducible assumption | (simp [cat, length_lsec, length_lback, length_lshown, length_lpub, length_ldig, length_join, hs]; done) | (simp [cat, length_lsec, length_lback, length_lshown, length_lpub, length_ldig, length_join, hs]; omega) | rfl))) rfl ?_
        rintro _ w ⟨rfl, hB⟩
        have S := S.below hB
        have hS := S.pk [0, 1, 2] rfl
        refine ⟨hS, ?_⟩
        refine q_nil ?_
        refine t_fork ?_ ?_
        · refine q_does (d_call Try.func27 nm27 rfl rfl (l4sec_calls _ _ _ _ (by first | with_reducible assumption | (simp [cat, length_lsec, length_lback, length_lshown, length_lpub, length_ldig, length_join, hs]; done) | (simp [cat, length_lsec, length_lback, length_lshown, length_lpub, length_ldig, length_join, hs]; omega) | rfl))) rfl ?_
          rintro _ w ⟨rfl, hB⟩
          have S := S.below hB
          have hS := S.pk [0, 1, 2] rfl
          refine ⟨hS, ?_⟩
          refine q_nil ?_
          refine t_fork ?_ ?_
          · refine q_does (d_call Try.func28 nm28 rfl rfl (l4shown_calls _ _ (by first | with_reducible assumption | (simp [cat, length_lsec, length_lback, length_lshown, length_lpub, length_ldig, length_join, hs]; done) | (simp [cat, length_lsec, length_lback, length_lshown, length_lpub, length_ldig, length_join, hs]; omega) | rfl))) rfl ?_
            rintro _ w ⟨rfl, hB⟩
            have S := S.below hB
            have hS := S.pk [0, 1, 2] rfl
            refine ⟨hS, ?_⟩
            refine q_nil ?_
            refine t_fork ?_ ?_
            · refine q_does (d_allocA S zvS) rfl ?_
              rintro _ w ⟨y9, rfl, S⟩
              have hS := S.pk [1, 2, 3] rfl
              refine ⟨hS, ?_⟩
              refine q_nil ?_
              refine t_sq ?_
              refine q_does (d_allocA S zvS) rfl ?_
              rintro _ w ⟨y10, rfl, S⟩
              have hS := S.pk [2, 3, 4] rfl
              refine ⟨hS, ?_⟩
              refine q_does (d_storeW S 1 rfl rfl (by first | exact bv_one _ | exact sv_one _ | exact iv_one _ | with_reducible assumption | (refine One.mem ?_; repeat (first | exact One.bv _ | exact One.sv _ | exact One.iv _ | exact One.nil | exact One.cat0 | refine One.cat1 ?_ ?_ | refine One.cons rfl ?_ | refine One.append ?_ ?_))) sz29 (by first | with_reducible assumption | (simp [cat, length_lsec, length_lback, length_lshown, length_lpub, length_ldig, length_join, hs]; done) | (simp [cat, length_lsec, length_lback, length_lshown, length_lpub, length_ldig, length_join, hs]; omega) | rfl) rfl rfl (by first | with_reducible assumption | (simp [cat, length_lsec, length_lback, length_lshown, length_lpub, length_ldig, length_join, hs]; done) | (simp [cat, length_lsec, length_lback, length_lshown, length_lpub, length_ldig, length_join, hs]; omega) | rfl)) rfl ?_
              intro _ w S
              have hS := S.pk [2, 3, 4] rfl
              refine ⟨hS, ?_⟩
              refine q_nil ?_
              refine t_stop ?_
              refine p_does (d_storeW S 0 rfl rfl (by first | exact bv_one _ | exact sv_one _ | exact iv_one _ | with_reducible assumption | (refine One.mem ?_; repeat (first | exact One.bv _ | exact One.sv _ | exact One.iv _ | exact One.nil | exact One.cat0 | refine One.cat1 ?_ ?_ | refine One.cons rfl ?_ | refine One.append ?_ ?_))) sz29 (by first | with_reducible assumption | (simp [cat, length_lsec, length_lback, length_lshown, length_lpub, length_ldig, length_join, hs]; done) | (simp [cat, length_lsec, length_lback, length_lshown, length_lpub, length_ldig, length_join, hs]; omega) | rfl) rfl rfl (by first | with_reducible assumption | (simp [cat, length_lsec, length_lback, length_lshown, length_lpub, length_ldig, length_join, hs]; done) | (simp [cat, length_lsec, length_lback, length_lshown, length_lpub, length_ldig, length_join, hs]; omega) | rfl)) rfl ?_
              intro _ w S
              exact p_nil (x_then ⟨_, rfl, _, _, _, upds_eq ⟨rfl, rfl, rfl, rfl, rfl, rfl, rfl, trivial⟩, S.pk [1, 0, 2, 3, 4] rfl⟩)
            · refine t_fork ?_ ?_
              · refine q_does (d_allocA S zvS) rfl ?_
                rintro _ w ⟨y10, rfl, S⟩
                have hS := S.pk [1, 2, 3] rfl
                refine ⟨hS, ?_⟩
                refine q_nil ?_
                refine t_sq ?_
                refine q_does (d_allocA S zvS) rfl ?_
                rintro _ w ⟨y9, rfl, S⟩
                have hS := S.pk [2, 3, 4] rfl
                refine ⟨hS, ?_⟩
                refine q_does (d_storeW S 0 rfl rfl (by first | exact bv_one _ | exact sv_one _ | exact iv_one _ | with_reducible assumption | (refine One.mem ?_; repeat (first | exact One.bv _ | exact One.sv _ | exact One.iv _ | exact One.nil | exact One.cat0 | refine One.cat1 ?_ ?_ | refine One.cons rfl ?_ | refine One.append ?_ ?_))) sz29 (by first | with_reducible assumption | (simp [cat, length_lsec, length_lback, length_lshown, length_lpub, length_ldig, length_join, hs]; done) | (simp [cat, length_lsec, length_lback, length_lshown, length_lpub, length_ldig, length_join, hs]; omega) | rfl) rfl rfl (by first | with_reducible assumption | (simp [cat, length_lsec, length_lback, length_lshown, length_lpub, length_ldig, length_join, hs]; done) | (simp [cat, length_lsec, length_lback, length_lshown, length_lpub, length_ldig, length_join, hs]; omega) | rfl)) rfl ?_
                intro _ w S
                have hS := S.pk [2, 3, 4] rfl
                refine ⟨hS, ?_⟩
                refine q_nil ?_
                refine t_stop ?_
                refine p_does (d_storeW S 1 rfl rfl (by first | exact bv_one _ | exact sv_one _ | exact iv_one _ | with_reducible assumption | (refine One.mem ?_; repeat (first | exact One.bv _ | exact One.sv _ | exact One.iv _ | exact One.nil | exact One.cat0 | refine One.cat1 ?_ ?_ | refine One.cons rfl ?_ | refine One.append ?_ ?_))) sz29 (by first | with_reducible assumption | (simp [cat, length_lsec, length_lback, length_lshown, length_lpub, length_ldig, length_join, hs]; done) | (simp [cat, length_lsec, length_lback, length_lshown, length_lpub, length_ldig, length_join, hs]; omega) | rfl) rfl rfl (by first | with_reducible assumption | (simp [cat, length_lsec, length_lback, length_lshown, length_lpub, length_ldig, length_join, hs]; done) | (simp [cat, length_lsec, length_lback, length_lshown, length_lpub, length_ldig, length_join, hs]; omega) | rfl)) rfl ?_
                intro _ w S
                exact p_nil (x_then ⟨_, rfl, _, _, _, upds_eq ⟨rfl, rfl, rfl, rfl, rfl, rfl, rfl, trivial⟩, S.pk [0, 1, 2, 3, 4] rfl⟩)
              · exact t_none
          · refine t_fork ?_ ?_
            · refine q_does (d_allocA S zvS) rfl ?_
              rintro _ w ⟨y9, rfl, S⟩
              have hS := S.pk [1, 2, 3] rfl
              refine ⟨hS, ?_⟩
              refine q_nil ?_
              refine t_fork ?_ ?_
              · refine q_does (d_call Try.func28 nm28 rfl rfl (l4shown_calls _ _ (by first | with_reducible assumption | (simp [cat, length_lsec, length_lback, length_lshown, length_lpub, length_ldig, length_join, hs]; done) | (simp [cat, length_lsec, length_lback, length_lshown, length_lpub, length_ldig, length_join, hs]; omega) | rfl))) rfl ?_
                rintro _ w ⟨rfl, hB⟩
                have S := S.below hB
                have hS := S.pk [1, 2, 3] rfl
                refine ⟨hS, ?_⟩
                refine q_nil ?_
                refine t_sq ?_
                refine q_does (d_allocA S zvS) rfl ?_
                rintro _ w ⟨y10, rfl, S⟩
                have hS := S.pk [2, 3, 4] rfl
                refine ⟨hS, ?_⟩
                refine q_does (d_storeW S 1 rfl rfl (by first | exact bv_one _ | exact sv_one _ | exact iv_one _ | with_reducible assumption | (refine One.mem ?_; repeat (first | exact One.bv _ | exact One.sv _ | exact One.iv _ | exact One.nil | exact One.cat0 | refine One.cat1 ?_ ?_ | refine One.cons rfl ?_ | refine One.append ?_ ?_))) sz29 (by first | with_reducible assumption | (simp [cat, length_lsec, length_lback, length_lshown, length_lpub, length_ldig, length_join, hs]; done) | (simp [cat, length_lsec, length_lback, length_lshown, length_lpub, length_ldig, length_join, hs]; omega) | rfl) rfl rfl (by first | with_reducible assumption | (simp [cat, length_lsec, length_lback, length_lshown, length_lpub, length_ldig, length_join, hs]; done) | (simp [cat, length_lsec, length_lback, length_lshown, length_lpub, length_ldig, length_join, hs]; omega) | rfl)) rfl ?_
                intro _ w S
                have hS := S.pk [2, 3, 4] rfl
                refine ⟨hS, ?_⟩
                refine q_nil ?_
                refine t_stop ?_
                refine p_does (d_storeW S 0 rfl rfl (by first | exact bv_one _ | exact sv_one _ | exact iv_one _ | with_reducible assumption | (refine One.mem ?_; repeat (first | exact One.bv _ | exact One.sv _ | exact One.iv _ | exact One.nil | exact One.cat0 | refine One.cat1 ?_ ?_ | refine One.cons rfl ?_ | refine One.append ?_ ?_))) sz29 (by first | with_reducible assumption | (simp [cat, length_lsec, length_lback, length_lshown, length_lpub, length_ldig, length_join, hs]; done) | (simp [cat, length_lsec, length_lback, length_lshown, length_lpub, length_ldig, length_join, hs]; omega) | rfl) rfl rfl (by first | with_reducible assumption | (simp [cat, length_lsec, length_lback, length_lshown, length_lpub, length_ldig, length_join, hs]; done) | (simp [cat, length_lsec, length_lback, length_lshown, length_lpub, length_ldig, length_join, hs]; omega) | rfl)) rfl ?_
                intro _ w S
                exact p_nil (x_then ⟨_, rfl, _, _, _, upds_eq ⟨rfl, rfl, rfl, rfl, rfl, rfl, rfl, trivial⟩, S.pk [1, 0, 2, 3, 4] rfl⟩)
              · refine t_fork ?_ ?_
                · refine q_does (d_allocA S zvS) rfl ?_
                  rintro _ w ⟨y10, rfl, S⟩
                  have hS := S.pk [2, 3, 4] rfl
                  refine ⟨hS, ?_⟩
                  refine q_nil ?_
                  refine t_sq ?_
                  refine q_does (d_call Try.func28 nm28 rfl rfl (l4shown_calls _ _ (by first | with_reducible assumption | (simp [cat, length_lsec, length_lback, length_lshown, length_lpub, length_ldig, length_join, hs]; done) | (simp [cat, length_lsec, length_lback, length_lshown, length_lpub, length_ldig, length_join, hs]; omega) | rfl))) rfl ?_
                  rintro _ w ⟨rfl, hB⟩
                  have S := S.below hB
                  have hS := S.pk [2, 3, 4] rfl
                  refine ⟨hS, ?_⟩
                  refine q_does (d_storeW S 1 rfl rfl (by first | exact bv_one _ | exact sv_one _ | exact iv_one _ | with_reducible assumption | (refine One.mem ?_; repeat (first | exact One.bv _ | exact One.sv _ | exact One.iv _ | exact One.nil | exact One.cat0 | refine One.cat1 ?_ ?_ | refine One.cons rfl ?_ | refine One.append ?_ ?_))) sz29 (by first | with_reducible assumption | (simp [cat, length_lsec, length_lback, length_lshown, length_lpub, length_ldig, length_join, hs]; done) | (simp [cat, length_lsec, length_lback, length_lshown, length_lpub, length_ldig, length_join, hs]; omega) | rfl) rfl rfl (by first | with_reducible assumption | (simp [cat, length_lsec, length_lback, length_lshown, length_lpub, length_ldig, length_join, hs]; done) | (simp [cat, length_lsec, length_lback, length_lshown, length_lpub, length_ldig, length_join, hs]; omega) | rfl)) rfl ?_
                  intro _ w S
                  have hS := S.pk [2, 3, 4] rfl
                  refine ⟨hS, ?_⟩
                  refine q_nil ?_
                  refine t_stop ?_
                  refine p_does (d_storeW S 0 rfl rfl (by first | exact bv_one _ | exact sv_one _ | exact iv_one _ | with_reducible assumption | (refine One.mem ?_; repeat (first | exact One.bv _ | exact One.sv _ | exact One.iv _ | exact One.nil | exact One.cat0 | refine One.cat1 ?_ ?_ | refine One.cons rfl ?_ | refine One.append ?_ ?_))) sz29 (by first | with_reducible assumption | (simp [cat, length_lsec, length_lback, length_lshown, length_lpub, length_ldig, length_join, hs]; done) | (simp [cat, length_lsec, length_lback, length_lshown, length_lpub, length_ldig, length_join, hs]; omega) | rfl) rfl rfl (by first | with_reducible assumption | (simp [cat, length_lsec, length_lback, length_lshown, length_lpub, length_ldig, length_join, hs]; done) | (simp [cat, length_lsec, length_lback, length_lshown, length_lpub, length_ldig, length_join, hs]; omega) | rfl)) rfl ?_
                  intro _ w S
                  exact p_nil (x_then ⟨_, rfl, _, _, _, upds_eq ⟨rfl, rfl, rfl, rfl, rfl, rfl, rfl, trivial⟩, S.pk [1, 0, 2, 3, 4] rfl⟩)
                · exact t_none
            · refine t_fork ?_ ?_
              · refine q_does (d_allocA S zvS) rfl ?_
                rintro _ w ⟨y10, rfl, S⟩
                have hS := S.pk [1, 2, 3] rfl
                refine ⟨hS, ?_⟩
                refine q_nil ?_
                refine t_fork ?_ ?_
                · refine q_does (d_call Try.func28 nm28 rfl rfl (l4shown_calls _ _ (by first | with_reducible assumption | (simp [cat, length_lsec, length_lback, length_lshown, length_lpub, length_ldig, length_join, hs]; done) | (simp [cat, length_lsec, length_lback, length_lshown, length_lpub, length_ldig, length_join, hs]; omega) | rfl))) rfl ?_
                  rintro _ w ⟨rfl, hB⟩
                  have S := S.below hB
                  have hS := S.pk [1, 2, 3] rfl
                  refine ⟨hS, ?_⟩
                  refine q_nil ?_
                  refine t_sq ?_
                  refine q_does (d_allocA S zvS) rfl ?_
                  rintro _ w ⟨y9, rfl, S⟩
                  have hS := S.pk [2, 3, 4] rfl
                  refine ⟨hS, ?_⟩
                  refine q_does (d_storeW S 0 rfl rfl (by first | exact bv_one _ | exact sv_one _ | exact iv_one _ | with_reducible assumption | (refine One.mem ?_; repeat (first | exact One.bv _ | exact One.sv _ | exact One.iv _ | exact One.nil | exact One.cat0 | refine One.cat1 ?_ ?_ | refine One.cons rfl ?_ | refine One.append ?_ ?_))) sz29 (by first | with_reducible assumption | (simp [cat, length_lsec, length_lback, length_lshown, length_lpub, length_ldig, length_join, hs]; done) | (simp [cat, length_lsec, length_lback, length_lshown, length_lpub, length_ldig, length_join, hs]; omega) | rfl) rfl rfl (by first | with_reducible assumption | (simp [cat, length_lsec, length_lback, length_lshown, length_lpub, length_ldig, length_join, hs]; done) | (simp [cat, length_lsec, length_lback, length_lshown, length_lpub, length_ldig, length_join, hs]; omega) | rfl)) rfl ?_
                  intro _ w S
                  have hS := S.pk [2, 3, 4] rfl
                  refine ⟨hS, ?_⟩
                  refine q_nil ?_
                  refine t_stop ?_
                  refine p_does (d_storeW S 1 rfl rfl (by first | exact bv_one _ | exact sv_one _ | exact iv_one _ | with_reducible assumption | (refine One.mem ?_; repeat (first | exact One.bv _ | exact One.sv _ | exact One.iv _ | exact One.nil | exact One.cat0 | refine One.cat1 ?_ ?_ | refine One.cons rfl ?_ | refine One.append ?_ ?_))) sz29 (by first | with_reducible assumption | (simp [cat, length_lsec, length_lback, length_lshown, length_lpub, length_ldig, length_join, hs]; done) | (simp [cat, length_lsec, length_lback, length_lshown, length_lpub, length_ldig, length_join, hs]; omega) | rfl) rfl rfl (by first | with_reducible assumption | (simp [cat, length_lsec, length_lback, length_lshown, length_lpub, length_ldig, length_join, hs]; done) | (simp [cat, length_lsec, length_lback, length_lshown, length_lpub, length_ldig, length_join, hs]; omega) | rfl)) rfl ?_
                  intro _ w S
                  exact p_nil (x_then ⟨_, rfl, _, _, _, upds_eq ⟨rfl, rfl, rfl, rfl, rfl, rfl, rfl, trivial⟩, S.pk [0, 1, 2, 3, 4] rfl⟩)
                · refine t_fork ?_ ?_
                  · refine q_does (d_allocA S zvS) rfl ?_
                    rintro _ w ⟨y9, rfl, S⟩
                    have hS := S.pk [2, 3, 4] rfl
                    refine ⟨hS, ?_⟩
                    refine q_nil ?_
                    refine t_sq ?_
                    refine q_does (d_call Try.func28 nm28 rfl rfl (l4shown_calls _ _ (by first | with_reducible assumption | (simp [cat, length_lsec, length_lback, length_lshown, length_lpub, length_ldig, length_join, hs]; done) | (simp [cat, length_lsec, length_lback, length_lshown, length_lpub, length_ldig, length_join, hs]; omega) | rfl))) rfl ?_
                    rintro _ w ⟨rfl, hB⟩
                    have S := S.below hB
                    have hS := S.pk [2, 3, 4] rfl
                    refine ⟨hS, ?_⟩
                    refine q_does (d_storeW S 0 rfl rfl (by first | exact bv_one _ | exact sv_one _ | exact iv_one _ | with_reducible assumption | (refine One.mem ?_; repeat (first | exact One.bv _ | exact One.sv _ | exact One.iv _ | exact One.nil | exact One.cat0 | refine One.cat1 ?_ ?_ | refine One.cons rfl ?_ | refine One.append ?_ ?_))) sz29 (by first | with_reducible assumption | (simp [cat, length_lsec, length_lback, length_lshown, length_lpub, length_ldig, length_join, hs]; done) | (simp [cat, length_lsec, length_lback, length_lshown, length_lpub, length_ldig, length_join, hs]; omega) | rfl) rfl rfl (by first | with_reducible assumption | (simp [cat, length_lsec, length_lback, length_lshown, length_lpub, length_ldig, length_join, hs]; done) | (simp [cat, length_lsec, length_lback, length_lshown, length_lpub, length_ldig, length_join, hs]; omega) | rfl)) rfl ?_
                    intro _ w S
                    have hS := S.pk [2, 3, 4] rfl
                    refine ⟨hS, ?_⟩
                    refine q_nil ?_
                    refine t_stop ?_
                    refine p_does (d_storeW S 1 rfl rfl (by first | exact bv_one _ | exact sv_one _ | exact iv_one _ | with_reducible assumption | (refine One.mem ?_; repeat (first | exact One.bv _ | exact One.sv _ | exact One.iv _ | exact One.nil | exact One.cat0 | refine One.cat1 ?_ ?_ | refine One.cons rfl ?_ | refine One.append ?_ ?_))) sz29 (by first | with_reducible assumption | (simp [cat, length_lsec, length_lback, length_lshown, length_lpub, length_ldig, length_join, hs]; done) | (simp [cat, length_lsec, length_lback, length_lshown, length_lpub, length_ldig, length_join, hs]; omega) | rfl) rfl rfl (by first | with_reducible assumption | (simp [cat, length_lsec, length_lback, length_lshown, length_lpub, length_ldig, length_join, hs]; done) | (simp [cat, length_lsec, length_lback, length_lshown, length_lpub, length_ldig, length_join, hs]; omega) | rfl)) rfl ?_
                    intro _ w S
                    exact p_nil (x_then ⟨_, rfl, _, _, _, upds_eq ⟨rfl, rfl, rfl, rfl, rfl, rfl, rfl, trivial⟩, S.pk [0, 1, 2, 3, 4] rfl⟩)
                  · exact t_none
              · exact t_none
        · refine t_fork ?_ ?_
          · refine q_does (d_allocA S zvS) rfl ?_
            rintro _ w ⟨y9, rfl, S⟩
            have hS := S.pk [1, 2, 3] rfl
            refine ⟨hS, ?_⟩
            refine q_nil ?_
            refine t_fork ?_ ?_
            · refine q_does (d_call Try.func27 nm27 rfl rfl (l4sec_calls _ _ _ _ (by first | with_reducible assumption | (simp [cat, length_lsec, length_lback, length_lshown, length_lpub, length_ldig, length_join, hs]; done) | (simp [cat, length_lsec, length_lback, length_lshown, length_lpub, length_ldig, length_join, hs]; omega) | rfl))) rfl ?_
              rintro _ w ⟨rfl, hB⟩
              have S := S.below hB
              have hS := S.pk [1, 2, 3] rfl
              refine ⟨hS, ?_⟩
              refine q_nil ?_
              refine t_fork ?_ ?_
              · refine q_does (d_call Try.func28 nm28 rfl rfl (l4shown_calls _ _ (by first | with_reducible assumption | (simp [cat, length_lsec, length_lback, length_lshown, length_lpub, length_ldig, length_join, hs]; done) | (simp [cat, length_lsec, length_lback, length_lshown, length_lpub, length_ldig, length_join, hs]; omega) | rfl))) rfl ?_
                rintro _ w ⟨rfl, hB⟩
                have S := S.below hB
                have hS := S.pk [1, 2, 3] rfl
                refine ⟨hS, ?_⟩
                refine q_nil ?_
                refine t_sq ?_
                refine q_does (d_allocA S zvS) rfl ?_
                rintro _ w ⟨y10, rfl, S⟩
                have hS := S.pk [2, 3, 4] rfl
                refine ⟨hS, ?_⟩
                refine q_does (d_storeW S 1 rfl rfl (by first | exact bv_one _ | exact sv_one _ | exact iv_one _ | with_reducible assumption | (refine One.mem ?_; repeat (first | exact One.bv _ | exact One.sv _ | exact One.iv _ | exact One.nil | exact One.cat0 | refine One.cat1 ?_ ?_ | refine One.cons rfl ?_ | refine One.append ?_ ?_))) sz29 (by first | with_reducible assumption | (simp [cat, length_lsec, length_lback, length_lshown, length_lpub, length_ldig, length_join, hs]; done) | (simp [cat, length_lsec, length_lback, length_lshown, length_lpub, length_ldig, length_join, hs]; omega) | rfl) rfl rfl (by first | with_reducible assumption | (simp [cat, length_lsec, length_lback, length_lshown, length_lpub, length_ldig, length_join, hs]; done) | (simp [cat, length_lsec, length_lback, length_lshown, length_lpub, length_ldig, length_join, hs]; omega) | rfl)) rfl ?_
                intro _ w S
                have hS := S.pk [2, 3, 4] rfl
                refine ⟨hS, ?_⟩
                refine q_nil ?_
                refine t_stop ?_
                refine p_does (d_storeW S 0 rfl rfl (by first | exact bv_one _ | exact sv_one _ | exact iv_one _ | with_reducible assumption | (refine One.mem ?_; repeat (first | exact One.bv _ | exact One.sv _ | exact One.iv _ | exact One.nil | exact One.cat0 | refine One.cat1 ?_ ?_ | refine One.cons rfl ?_ | refine One.append ?_ ?_))) sz29 (by first | with_reducible assumption | (simp [cat, length_lsec, length_lback, length_lshown, length_lpub, length_ldig, length_join, hs]; done) | (simp [cat, length_lsec, length_lback, length_lshown, length_lpub, length_ldig, length_join, hs]; omega) | rfl) rfl rfl (by first | with_reducible assumption | (simp [cat, length_lsec, length_lback, length_lshown, length_lpub, length_ldig, length_join, hs]; done) | (simp [cat, length_lsec, length_lback, length_lshown, length_lpub, length_ldig, length_join, hs]; omega) | rfl)) rfl ?_
                intro _ w S
                exact p_nil (x_then ⟨_, rfl, _, _, _, upds_eq ⟨rfl, rfl, rfl, rfl, rfl, rfl, rfl, trivial⟩, S.pk [1, 0, 2, 3, 4] rfl⟩)
              · refine t_fork ?_ ?_
                · refine q_does (d_allocA S zvS) rfl ?_
                  rintro _ w ⟨y10, rfl, S⟩
                  have hS := S.pk [2, 3, 4] rfl
                  refine ⟨hS, ?_⟩
                  refine q_nil ?_
                  refine t_sq ?_
                  refine q_does (d_call Try.func28 nm28 rfl rfl (l4shown_calls _ _ (by first | with_reducible assumption | (simp [cat, length_lsec, length_lback, length_lshown, length_lpub, length_ldig, length_join, hs]; done) | (simp [cat, length_lsec, length_lback, length_lshown, length_lpub, length_ldig, length_join, hs]; omega) | rfl))) rfl ?_
                  rintro _ w ⟨rfl, hB⟩
                  have S := S.below hB
                  have hS := S.pk [2, 3, 4] rfl
                  refine ⟨hS, ?_⟩
                  refine q_does (d_storeW S 1 rfl rfl (by first | exact bv_one _ | exact sv_one _ | exact iv_one _ | with_reducible assumption | (refine One.mem ?_; repeat (first | exact One.bv _ | exact One.sv _ | exact One.iv _ | exact One.nil | exact One.cat0 | refine One.cat1 ?_ ?_ | refine One.cons rfl ?_ | refine One.append ?_ ?_))) sz29 (by first | with_reducible assumption | (simp [cat, length_lsec, length_lback, length_lshown, length_lpub, length_ldig, length_join, hs]; done) | (simp [cat, length_lsec, length_lback, length_lshown, length_lpub, length_ldig, length_join, hs]; omega) | rfl) rfl rfl (by first | with_reducible assumption | (simp [cat, length_lsec, length_lback, length_lshown, length_lpub, length_ldig, length_join, hs]; done) | (simp [cat, length_lsec, length_lback, length_lshown, length_lpub, length_ldig, length_join, hs]; omega) | rfl)) rfl ?_
                  intro _ w S
                  have hS := S.pk [2, 3, 4] rfl
                  refine ⟨hS, ?_⟩
                  refine q_nil ?_
                  refine t_stop ?_
                  refine p_does (d_storeW S 0 rfl rfl (by first | exact bv_one _ | exact sv_one _ | exact iv_one _ | with_reducible assumption | (refine One.mem ?_; repeat (first | exact One.bv _ | exact One.sv _ | exact One.iv _ | exact One.nil | exact One.cat0 | refine One.cat1 ?_ ?_ | refine One.cons rfl ?_ | refine One.append ?_ ?_))) sz29 (by first | with_reducible assumption | (simp [cat, length_lsec, length_lback, length_lshown, length_lpub, length_ldig, length_join, hs]; done) | (simp [cat, length_lsec, length_lback, length_lshown, length_lpub, length_ldig, length_join, hs]; omega) | rfl) rfl rfl (by first | with_reducible assumption | (simp [cat, length_lsec, length_lback, length_lshown, length_lpub, length_ldig, length_join, hs]; done) | (simp [cat, length_lsec, length_lback, length_lshown, length_lpub, length_ldig, length_join, hs]; omega) | rfl)) rfl ?_
                  intro _ w S
                  exact p_nil (x_then ⟨_, rfl, _, _, _, upds_eq ⟨rfl, rfl, rfl, rfl, rfl, rfl, rfl, trivial⟩, S.pk [1, 0, 2, 3, 4] rfl⟩)
                · exact t_none
            · refine t_fork ?_ ?_
              · refine q_does (d_allocA S zvS) rfl ?_
                rintro _ w ⟨y10, rfl, S⟩
                have hS := S.pk [2, 3, 4] rfl
                refine ⟨hS, ?_⟩
                refine q_nil ?_
                refine t_sq ?_
                refine q_does (d_call Try.func27 nm27 rfl rfl (l4sec_calls _ _ _ _ (by first | with_reducible assumption | (simp [cat, length_lsec, length_lback, length_lshown, length_lpub, length_ldig, length_join, hs]; done) | (simp [cat, length_lsec, length_lback, length_lshown, length_lpub, length_ldig, length_join, hs]; omega) | rfl))) rfl ?_
                rintro _ w ⟨rfl, hB⟩
                have S := S.below hB
                have hS := S.pk [2, 3, 4] rfl
                refine ⟨hS, ?_⟩
                refine q_does (d_call Try.func28 nm28 rfl rfl (l4shown_calls _ _ (by first | with_reducible assumption | (simp [cat, length_lsec, length_lback, length_lshown, length_lpub, length_ldig, length_join, hs]; done) | (simp [cat, length_lsec, length_lback, length_lshown, length_lpub, length_ldig, length_join, hs]; omega) | rfl))) rfl ?_
                rintro _ w ⟨rfl, hB⟩
                have S := S.below hB
                have hS := S.pk [2, 3, 4] rfl
                refine ⟨hS, ?_⟩
                refine q_does (d_storeW S 1 rfl rfl (by first | exact bv_one _ | exact sv_one _ | exact iv_one _ | with_reducible assumption | (refine One.mem ?_; repeat (first | exact One.bv _ | exact One.sv _ | exact One.iv _ | exact One.nil | exact One.cat0 | refine One.cat1 ?_ ?_ | refine One.cons rfl ?_ | refine One.append ?_ ?_))) sz29 (by first | with_reducible assumption | (simp [cat, length_lsec, length_lback, length_lshown, length_lpub, length_ldig, length_join, hs]; done) | (simp [cat, length_lsec, length_lback, length_lshown, length_lpub, length_ldig, length_join, hs]; omega) | rfl) rfl rfl (by first | with_reducible assumption | (simp [cat, length_lsec, length_lback, length_lshown, length_lpub, length_ldig, length_join, hs]; done) | (simp [cat, length_lsec, length_lback, length_lshown, length_lpub, length_ldig, length_join, hs]; omega) | rfl)) rfl ?_
                intro _ w S
                have hS := S.pk [2, 3, 4] rfl
                refine ⟨hS, ?_⟩
                refine q_nil ?_
                refine t_stop ?_
                refine p_does (d_storeW S 0 rfl rfl (by first | exact bv_one _ | exact sv_one _ | exact iv_one _ | with_reducible assumption | (refine One.mem ?_; repeat (first | exact One.bv _ | exact One.sv _ | exact One.iv _ | exact One.nil | exact One.cat0 | refine One.cat1 ?_ ?_ | refine One.cons rfl ?_ | refine One.append ?_ ?_))) sz29 (by first | with_reducible assumption | (simp [cat, length_lsec, length_lback, length_lshown, length_lpub, length_ldig, length_join, hs]; done) | (simp [cat, length_lsec, length_lback, length_lshown, length_lpub, length_ldig, length_join, hs]; omega) | rfl) rfl rfl (by first | with_reducible assumption | (simp [cat, length_lsec, length_lback, length_lshown, length_lpub, length_ldig, length_join, hs]; done) | (simp [cat, length_lsec, length_lback, length_lshown, length_lpub, length_ldig, length_join, hs]; omega) | rfl)) rfl ?_
                intro _ w S
                exact p_nil (x_then ⟨_, rfl, _, _, _, upds_eq ⟨rfl, rfl, rfl, rfl, rfl, rfl, rfl, trivial⟩, S.pk [1, 0, 2, 3, 4] rfl⟩)
              · exact t_none
          · refine t_fork ?_ ?_
            · refine q_does (d_allocA S zvS) rfl ?_
              rintro _ w ⟨y10, rfl, S⟩
              have hS := S.pk [1, 2, 3] rfl
              refine ⟨hS, ?_⟩
              refine q_nil ?_
              refine t_fork ?_ ?_
              · refine q_does (d_call Try.func27 nm27 rfl rfl (l4sec_calls _ _ _ _ (by first | with_reducible assumption | (simp [cat, length_lsec, length_lback, length_lshown, length_lpub, length_ldig, length_join, hs]; done) | (simp [cat, length_lsec, length_lback, length_lshown, length_lpub, length_ldig, length_join, hs]; omega) | rfl))) rfl ?_
                rintro _ w ⟨rfl, hB⟩
                have S := S.below hB
                have hS := S.pk [1, 2, 3] rfl
                refine ⟨hS, ?_⟩
                refine q_nil ?_
                refine t_fork ?_ ?_
                · refine q_does (d_call Try.func28 nm28 rfl rfl (l4shown_calls _ _ (by first | with_reducible assumption | (simp [cat, length_lsec, length_lback, length_lshown, length_lpub, length_ldig, length_join, hs]; done) | (simp [cat, length_lsec, length_lback, length_lshown, length_lpub, length_ldig, length_join, hs]; omega) | rfl))) rfl ?_
                  rintro _ w ⟨rfl, hB⟩
                  have S := S.below hB
                  have hS := S.pk [1, 2, 3] rfl
                  refine ⟨hS, ?_⟩
                  refine q_nil ?_
                  refine t_sq ?_
                  refine q_does (d_allocA S zvS) rfl ?_
                  rintro _ w ⟨y9, rfl, S⟩
                  have hS := S.pk [2, 3, 4] rfl
                  refine ⟨hS, ?_⟩
                  refine q_does (d_storeW S 0 rfl rfl (by first | exact bv_one _ | exact sv_one _ | exact iv_one _ | with_reducible assumption | (refine One.mem ?_; repeat (first | exact One.bv _ | exact One.sv _ | exact One.iv _ | exact One.nil | exact One.cat0 | refine One.cat1 ?_ ?_ | refine One.cons rfl ?_ | refine One.append ?_ ?_))) sz29 (by first | with_reducible assumption | (simp [cat, length_lsec, length_lback, length_lshown, length_lpub, length_ldig, length_join, hs]; done) | (simp [cat, length_lsec, length_lback, length_lshown, length_lpub, length_ldig, length_join, hs]; omega) | rfl) rfl rfl (by first | with_reducible assumption | (simp [cat, length_lsec, length_lback, length_lshown, length_lpub, length_ldig, length_join, hs]; done) | (simp [cat, length_lsec, length_lback, length_lshown, length_lpub, length_ldig, length_join, hs]; omega) | rfl)) rfl ?_
                  intro _ w S
                  have hS := S.pk [2, 3, 4] rfl
                  refine ⟨hS, ?_⟩
                  refine q_nil ?_
                  refine t_stop ?_
                  refine p_does (d_storeW S 1 rfl rfl (by first | exact bv_one _ | exact sv_one _ | exact iv_one _ | with_reducible assumption | (refine One.mem ?_; repeat (first | exact One.bv _ | exact One.sv _ | exact One.iv _ | exact One.nil | exact One.cat0 | refine One.cat1 ?_ ?_ | refine One.cons rfl ?_ | refine One.append ?_ ?_))) sz29 (by first | with_reducible assumption | (simp [cat, length_lsec, length_lback, length_lshown, length_lpub, length_ldig, length_join, hs]; done) | (simp [cat, length_lsec, length_lback, length_lshown, length_lpub, length_ldig, length_join, hs]; omega) | rfl) rfl rfl (by first | with_reducible assumption | (simp [cat, length_lsec, length_lback, length_lshown, length_lpub, length_ldig, length_join, hs]; done) | (simp [cat, length_lsec, length_lback, length_lshown, length_lpub, length_ldig, length_join, hs]; omega) | rfl)) rfl ?_
                  intro _ w S
                  exact p_nil (x_then ⟨_, rfl, _, _, _, upds_eq ⟨rfl, rfl, rfl, rfl, rfl, rfl, rfl, trivial⟩, S.pk [0, 1, 2, 3, 4] rfl⟩)
                · refine t_fork ?_ ?_
                  · refine q_does (d_allocA S zvS) rfl ?_
                    rintro _ w ⟨y9, rfl, S⟩
                    have hS := S.pk [2, 3, 4] rfl
                    refine ⟨hS, ?_⟩
                    refine q_nil ?_
                    refine t_sq ?_
                    refine q_does (d_call Try.func28 nm28 rfl rfl (l4shown_calls _ _ (by first | with_reducible assumption | (simp [cat, length_lsec, length_lback, length_lshown, length_lpub, length_ldig, length_join, hs]; done) | (simp [cat, length_lsec, length_lback, length_lshown, length_lpub, length_ldig, length_join, hs]; omega) | rfl))) rfl ?_
                    rintro _ w ⟨rfl, hB⟩
                    have S := S.below hB
                    have hS := S.pk [2, 3, 4] rfl
                    refine ⟨hS, ?_⟩
                    refine q_does (d_storeW S 0 rfl rfl (by first | exact bv_one _ | exact sv_one _ | exact iv_one _ | with_reducible assumption | (refine One.mem ?_; repeat (first | exact One.bv _ | exact One.sv _ | exact One.iv _ | exact One.nil | exact One.cat0 | refine One.cat1 ?_ ?_ | refine One.cons rfl ?_ | refine One.append ?_ ?_))) sz29 (by first | with_reducible assumption | (simp [cat, length_lsec, length_lback, length_lshown, length_lpub, length_ldig, length_join, hs]; done) | (simp [cat, length_lsec, length_lback, length_lshown, length_lpub, length_ldig, length_join, hs]; omega) | rfl) rfl rfl (by first | with_reducible assumption | (simp [cat, length_lsec, length_lback, length_lshown, length_lpub, length_ldig, length_join, hs]; done) | (simp [cat, length_lsec, length_lback, length_lshown, length_lpub, length_ldig, length_join, hs]; omega) | rfl)) rfl ?_
                    intro _ w S
                    have hS := S.pk [2, 3, 4] rfl
                    refine ⟨hS, ?_⟩
                    refine q_nil ?_
                    refine t_stop ?_
                    refine p_does (d_storeW S 1 rfl rfl (by first | exact bv_one _ | exact sv_one _ | exact iv_one _ | with_reducible assumption | (refine One.mem ?_; repeat (first | exact One.bv _ | exact One.sv _ | exact One.iv _ | exact One.nil | exact One.cat0 | refine One.cat1 ?_ ?_ | refine One.cons rfl ?_ | refine One.append ?_ ?_))) sz29 (by first | with_reducible assumption | (simp [cat, length_lsec, length_lback, length_lshown, length_lpub, length_ldig, length_join, hs]; done) | (simp [cat, length_lsec, length_lback, length_lshown, length_lpub, length_ldig, length_join, hs]; omega) | rfl) rfl rfl (by first | with_reducible assumption | (simp [cat, length_lsec, length_lback, length_lshown, length_lpub, length_ldig, length_join, hs]; done) | (simp [cat, length_lsec, length_lback, length_lshown, length_lpub, length_ldig, length_join, hs]; omega) | rfl)) rfl ?_
                    intro _ w S
                    exact p_nil (x_then ⟨_, rfl, _, _, _, upds_eq ⟨rfl, rfl, rfl, rfl, rfl, rfl, rfl, trivial⟩, S.pk [0, 1, 2, 3, 4] rfl⟩)
                  · exact t_none
              · refine t_fork ?_ ?_
                · refine q_does (d_allocA S zvS) rfl ?_
                  rintro _ w ⟨y9, rfl, S⟩
                  have hS := S.pk [2, 3, 4] rfl
                  refine ⟨hS, ?_⟩
                  refine q_nil ?_
                  refine t_sq ?_
                  refine q_does (d_call Try.func27 nm27 rfl rfl (l4sec_calls _ _ _ _ (by first | with_reducible assumption | (simp [cat, length_lsec, length_lback, length_lshown, length_lpub, length_ldig, length_join, hs]; done) | (simp [cat, length_lsec, length_lback, length_lshown, length_lpub, length_ldig, length_join, hs]; omega) | rfl))) rfl ?_
                  rintro _ w ⟨rfl, hB⟩
                  have S := S.below hB
                  have hS := S.pk [2, 3, 4] rfl
                  refine ⟨hS, ?_⟩
                  refine q_does (d_call Try.func28 nm28 rfl rfl (l4shown_calls _ _ (by first | with_reducible assumption | (simp [cat, length_lsec, length_lback, length_lshown, length_lpub, length_ldig, length_join, hs]; done) | (simp [cat, length_lsec, length_lback, length_lshown, length_lpub, length_ldig, length_join, hs]; omega) | rfl))) rfl ?_
                  rintro _ w ⟨rfl, hB⟩
                  have S := S.below hB
                  have hS := S.pk [2, 3, 4] rfl
                  refine ⟨hS, ?_⟩
                  refine q_does (d_storeW S 0 rfl rfl (by first | exact bv_one _ | exact sv_one _ | exact iv_one _ | with_reducible assumption | (refine One.mem ?_; repeat (first | exact One.bv _ | exact One.sv _ | exact One.iv _ | exact One.nil | exact One.cat0 | refine One.cat1 ?_ ?_ | refine One.cons rfl ?_ | refine One.append ?_ ?_))) sz29 (by first | with_reducible assumption | (simp [cat, length_lsec, length_lback, length_lshown, length_lpub, length_ldig, length_join, hs]; done) | (simp [cat, length_lsec, length_lback, length_lshown, length_lpub, length_ldig, length_join, hs]; omega) | rfl) rfl rfl (by first | with_reducible assumption | (simp [cat, length_lsec, length_lback, length_lshown, length_lpub, length_ldig, length_join, hs]; done) | (simp [cat, length_lsec, length_lback, length_lshown, length_lpub, length_ldig, length_join, hs]; omega) | rfl)) rfl ?_
                  intro _ w S
                  have hS := S.pk [2, 3, 4] rfl
                  refine ⟨hS, ?_⟩
                  refine q_nil ?_
                  refine t_stop ?_
                  refine p_does (d_storeW S 1 rfl rfl (by first | exact bv_one _ | exact sv_one _ | exact iv_one _ | with_reducible assumption | (refine One.mem ?_; repeat (first | exact One.bv _ | exact One.sv _ | exact One.iv _ | exact One.nil | exact One.cat0 | refine One.cat1 ?_ ?_ | refine One.cons rfl ?_ | refine One.append ?_ ?_))) sz29 (by first | with_reducible assumption | (simp [cat, length_lsec, length_lback, length_lshown, length_lpub, length_ldig, length_join, hs]; done) | (simp [cat, length_lsec, length_lback, length_lshown, length_lpub, length_ldig, length_join, hs]; omega) | rfl) rfl rfl (by first | with_reducible assumption | (simp [cat, length_lsec, length_lback, length_lshown, length_lpub, length_ldig, length_join, hs]; done) | (simp [cat, length_lsec, length_lback, length_lshown, length_lpub, length_ldig, length_join, hs]; omega) | rfl)) rfl ?_
                  intro _ w S
                  exact p_nil (x_then ⟨_, rfl, _, _, _, upds_eq ⟨rfl, rfl, rfl, rfl, rfl, rfl, rfl, trivial⟩, S.pk [0, 1, 2, 3, 4] rfl⟩)
                · exact t_none
            · exact t_none
      · refine t_fork ?_ ?_
        · refine q_does (d_allocA S zvS) rfl ?_
          rintro _ w ⟨y9, rfl, S⟩
          have hS := S.pk [1, 2, 3] rfl
          refine ⟨hS, ?_⟩
          refine q_nil ?_
          refine t_fork ?_ ?_
          · refine q_does (d_call Try.func27 nm27 rfl rfl (l4sec_calls _ _ _ _ (by first | with_reducible assumption | (simp [cat, length_lsec, length_lback, length_lshown, length_lpub, length_ldig, length_join, hs]; done) | (simp [cat, length_lsec, length_lback, length_lshown, length_lpub, length_ldig, length_join, hs]; omega) | rfl))) rfl ?_
            rintro _ w ⟨rfl, hB⟩
            have S := S.below hB
            have hS := S.pk [1, 2, 3] rfl
            refine ⟨hS, ?_⟩
            refine q_nil ?_
            refine t_fork ?_ ?_
            · refine q_does (d_call Try.func27 nm27 rfl rfl (l4sec_calls _ _ _ _ (by first | with_reducible assumption | (simp [cat, length_lsec, length_lback, length_lshown, length_lpub, length_ldig, length_join, hs]; done) | (simp [cat, length_lsec, length_lback, length_lshown, length_lpub, length_ldig, length_join, hs]; omega) | rfl))) rfl ?_
              rintro _ w ⟨rfl, hB⟩
              have S := S.below hB
              have hS := S.pk [1, 2, 3] rfl
              refine ⟨hS, ?_⟩
              refine q_nil ?_
              refine t_fork ?_ ?_
              · refine q_does (d_call Try.func28 nm28 rfl rfl (l4shown_calls _ _ (by first | with_reducible assumption | (simp [cat, length_lsec, length_lback, length_lshown, length_lpub, length_ldig, length_join, hs]; done) | (simp [cat, length_lsec, length_lback, length_lshown, length_lpub, length_ldig, length_join, hs]; omega) | rfl))) rfl ?_
                rintro _ w ⟨rfl, hB⟩
                have S := S.below hB
                have hS := S.pk [1, 2, 3] rfl
                refine ⟨hS, ?_⟩
                refine q_nil ?_
                refine t_sq ?_
                refine q_does (d_allocA S zvS) rfl ?_
                rintro _ w ⟨y10, rfl, S⟩
                have hS := S.pk [2, 3, 4] rfl
                refine ⟨hS, ?_⟩
                refine q_does (d_storeW S 1 rfl rfl (by first | exact bv_one _ | exact sv_one _ | exact iv_one _ | with_reducible assumption | (refine One.mem ?_; repeat (first | exact One.bv _ | exact One.sv _ | exact One.iv _ | exact One.nil | exact One.cat0 | refine One.cat1 ?_ ?_ | refine One.cons rfl ?_ | refine One.append ?_ ?_))) sz29 (by first | with_reducible assumption | (simp [cat, length_lsec, length_lback, length_lshown, length_lpub, length_ldig, length_join, hs]; done) | (simp [cat, length_lsec, length_lback, length_lshown, length_lpub, length_ldig, length_join, hs]; omega) | rfl) rfl rfl (by first | with_reducible assumption | (simp [cat, length_lsec, length_lback, length_lshown, length_lpub, length_ldig, length_join, hs]; done) | (simp [cat, length_lsec, length_lback, length_lshown, length_lpub, length_ldig, length_join, hs]; omega) | rfl)) rfl ?_
                intro _ w S
                have hS := S.pk [2, 3, 4] rfl
                refine ⟨hS, ?_⟩
                refine q_nil ?_
                refine t_stop ?_
                refine p_does (d_storeW S 0 rfl rfl (by first | exact bv_one _ | exact sv_one _ | exact iv_one _ | with_reducible assumption | (refine One.mem ?_; repeat (first | exact One.bv _ | exact One.sv _ | exact One.iv _ | exact One.nil | exact One.cat0 | refine One.cat1 ?_ ?_ | refine One.cons rfl ?_ | refine One.append ?_ ?_))) sz29 (by first | with_reducible assumption | (simp [cat, length_lsec, length_lback, length_lshown, length_lpub, length_ldig, length_join, hs]; done) | (simp [cat, length_lsec, length_lback, length_lshown, length_lpub, length_ldig, length_join, hs]; omega) | rfl) rfl rfl (by first | with_reducible assumption | (simp [cat, length_lsec, length_lback, length_lshown, length_lpub, length_ldig, length_join, hs]; done) | (simp [cat, length_lsec, length_lback, length_lshown, length_lpub, length_ldig, length_join, hs]; omega) | rfl)) rfl ?_
                intro _ w S
                exact p_nil (x_then ⟨_, rfl, _, _, _, upds_eq ⟨rfl, rfl, rfl, rfl, rfl, rfl, rfl, trivial⟩, S.pk [1, 0, 2, 3, 4] rfl⟩)
              · refine t_fork ?_ ?_
                · refine q_does (d_allocA S zvS) rfl ?_
                  rintro _ w ⟨y10, rfl, S⟩
                  have hS := S.pk [2, 3, 4] rfl
                  refine ⟨hS, ?_⟩
                  refine q_nil ?_
                  refine t_sq ?_
                  refine q_does (d_call Try.func28 nm28 rfl rfl (l4shown_calls _ _ (by first | with_reducible assumption | (simp [cat, length_lsec, length_lback, length_lshown, length_lpub, length_ldig, length_join, hs]; done) | (simp [cat, length_lsec, length_lback, length_lshown, length_lpub, length_ldig, length_join, hs]; omega) | rfl))) rfl ?_
                  rintro _ w ⟨rfl, hB⟩
                  have S := S.below hB
                  have hS := S.pk [2, 3, 4] rfl
                  refine ⟨hS, ?_⟩
                  refine q_does (d_storeW S 1 rfl rfl (by first | exact bv_one _ | exact sv_one _ | exact iv_one _ | with_reducible assumption | (refine One.mem ?_; repeat (first | exact One.bv _ | exact One.sv _ | exact One.iv _ | exact One.nil | exact One.cat0 | refine One.cat1 ?_ ?_ | refine One.cons rfl ?_ | refine One.append ?_ ?_))) sz29 (by first | with_reducible assumption | (simp [cat, length_lsec, length_lback, length_lshown, length_lpub, length_ldig, length_join, hs]; done) | (simp [cat, length_lsec, length_lback, length_lshown, length_lpub, length_ldig, length_join, hs]; omega) | rfl) rfl rfl (by first | with_reducible assumption | (simp [cat, length_lsec, length_lback, length_lshown, length_lpub, length_ldig, length_join, hs]; done) | (simp [cat, length_lsec, length_lback, length_lshown, length_lpub, length_ldig, length_join, hs]; omega) | rfl)) rfl ?_
                  intro _ w S
                  have hS := S.pk [2, 3, 4] rfl
                  refine ⟨hS, ?_⟩
                  refine q_nil ?_
                  refine t_stop ?_
                  refine p_does (d_storeW S 0 rfl rfl (by first | exact bv_one _ | exact sv_one _ | exact iv_one _ | with_reducible assumption | (refine One.mem ?_; repeat (first | exact One.bv _ | exact One.sv _ | exact One.iv _ | exact One.nil | exact One.cat0 | refine One.cat1 ?_ ?_ | refine One.cons rfl ?_ | refine One.append ?_ ?_))) sz29 (by first | with_reducible assumption | (simp [cat, length_lsec, length_lback, length_lshown, length_lpub, length_ldig, length_join, hs]; done) | (simp [cat, length_lsec, length_lback, length_lshown, length_lpub, length_ldig, length_join, hs]; omega) | rfl) rfl rfl (by first | with_reducible assumption | (simp [cat, length_lsec, length_lback, length_lshown, length_lpub, length_ldig, length_join, hs]; done) | (simp [cat, length_lsec, length_lback, length_lshown, length_lpub, length_ldig, length_join, hs]; omega) | rfl)) rfl ?_
                  intro _ w S
                  exact p_nil (x_then ⟨_, rfl, _, _, _, upds_eq ⟨rfl, rfl, rfl, rfl, rfl, rfl, rfl, trivial⟩, S.pk [1, 0, 2, 3, 4] rfl⟩)
                · exact t_none
            · refine t_fork ?_ ?_
              · refine q_does (d_allocA S zvS) rfl ?_
                rintro _ w ⟨y10, rfl, S⟩
                have hS := S.pk [2, 3, 4] rfl
                refine ⟨hS, ?_⟩
                refine q_nil ?_
                refine t_sq ?_
                refine q_does (d_call Try.func27 nm27 rfl rfl (l4sec_calls _ _ _ _ (by first | with_reducible assumption | (simp [cat, length_lsec, length_lback, length_lshown, length_lpub, length_ldig, length_join, hs]; done) | (simp [cat, length_lsec, length_lback, length_lshown, length_lpub, length_ldig, length_join, hs]; omega) | rfl))) rfl ?_
                rintro _ w ⟨rfl, hB⟩
                have S := S.below hB
                have hS := S.pk [2, 3, 4] rfl
                refine ⟨hS, ?_⟩
                refine q_does (d_call Try.func28 nm28 rfl rfl (l4shown_calls _ _ (by first | with_reducible assumption | (simp [cat, length_lsec, length_lback, length_lshown, length_lpub, length_ldig, length_join, hs]; done) | (simp [cat, length_lsec, length_lback, length_lshown, length_lpub, length_ldig, length_join, hs]; omega) | rfl))) rfl ?_
                rintro _ w ⟨rfl, hB⟩
                have S := S.below hB
                have hS := S.pk [2, 3, 4] rfl
                refine ⟨hS, ?_⟩
                refine q_does (d_storeW S 1 rfl rfl (by first | exact bv_one _ | exact sv_one _ | exact iv_one _ | with_reducible assumption | (refine One.mem ?_; repeat (first | exact One.bv _ | exact One.sv _ | exact One.iv _ | exact One.nil | exact One.cat0 | refine One.cat1 ?_ ?_ | refine One.cons rfl ?_ | refine One.append ?_ ?_))) sz29 (by first | with_reducible assumption | (simp [cat, length_lsec, length_lback, length_lshown, length_lpub, length_ldig, length_join, hs]; done) | (simp [cat, length_lsec, length_lback, length_lshown, length_lpub, length_ldig, length_join, hs]; omega) | rfl) rfl rfl (by first | with_reducible assumption | (simp [cat, length_lsec, length_lback, length_lshown, length_lpub, length_ldig, length_join, hs]; done) | (simp [cat, length_lsec, length_lback, length_lshown, length_lpub, length_ldig, length_join, hs]; omega) | rfl)) rfl ?_
                intro _ w S
                have hS := S.pk [2, 3, 4] rfl
                refine ⟨hS, ?_⟩
                refine q_nil ?_
                refine t_stop ?_
                refine p_does (d_storeW S 0 rfl rfl (by first | exact bv_one _ | exact sv_one _ | exact iv_one _ | with_reducible assumption | (refine One.mem ?_; repeat (first | exact One.bv _ | exact One.sv _ | exact One.iv _ | exact One.nil | exact One.cat0 | refine One.cat1 ?_ ?_ | refine One.cons rfl ?_ | refine One.append ?_ ?_))) sz29 (by first | with_reducible assumption | (simp [cat, length_lsec, length_lback, length_lshown, length_lpub, length_ldig, length_join, hs]; done) | (simp [cat, length_lsec, length_lback, length_lshown, length_lpub, length_ldig, length_join, hs]; omega) | rfl) rfl rfl (by first | with_reducible assumption | (simp [cat, length_lsec, length_lback, length_lshown, length_lpub, length_ldig, length_join, hs]; done) | (simp [cat, length_lsec, length_lback, length_lshown, length_lpub, length_ldig, length_join, hs]; omega) | rfl)) rfl ?_
                intro _ w S
                exact p_nil (x_then ⟨_, rfl, _, _, _, upds_eq ⟨rfl, rfl, rfl, rfl, rfl, rfl, rfl, trivial⟩, S.pk [1, 0, 2, 3, 4] rfl⟩)
              · exact t_none
          · refine t_fork ?_ ?_
            · refine q_does (d_allocA S zvS) rfl ?_
              rintro _ w ⟨y10, rfl, S⟩
              have hS := S.pk [2, 3, 4] rfl
              refine ⟨hS, ?_⟩
              refine q_nil ?_
              refine t_sq ?_
              refine q_does (d_call Try.func27 nm27 rfl rfl (l4sec_calls _ _ _ _ (by first | with_reducible assumption | (simp [cat, length_lsec, length_lback, length_lshown, length_lpub, length_ldig, length_join, hs]; done) | (simp [cat, length_lsec, length_lback, length_lshown, length_lpub, length_ldig, length_join, hs]; omega) | rfl))) rfl ?_
              rintro _ w ⟨rfl, hB⟩
              have S := S.below hB
              have hS := S.pk [2, 3, 4] rfl
              refine ⟨hS, ?_⟩
              refine q_does (d_call Try.func27 nm27 rfl rfl (l4sec_calls _ _ _ _ (by first | with_reducible assumption | (simp [cat, length_lsec, length_lback, length_lshown, length_lpub, length_ldig, length_join, hs]; done) | (simp [cat, length_lsec, length_lback, length_lshown, length_lpub, length_ldig, length_join, hs]; omega) | rfl))) rfl ?_
              rintro _ w ⟨rfl, hB⟩
              have S := S.below hB
              have hS := S.pk [2, 3, 4] rfl
              refine ⟨hS, ?_⟩
              refine q_does (d_call Try.func28 nm28 rfl rfl (l4shown_calls _ _ (by first | with_reducible assumption | (simp [cat, length_lsec, length_lback, length_lshown, length_lpub, length_ldig, length_join, hs]; done) | (simp [cat, length_lsec, length_lback, length_lshown, length_lpub, length_ldig, length_join, hs]; omega) | rfl))) rfl ?_
              rintro _ w ⟨rfl, hB⟩
              have S := S.below hB
              have hS := S.pk [2, 3, 4] rfl
              refine ⟨hS, ?_⟩
              refine q_does (d_storeW S 1 rfl rfl (by first | exact bv_one _ | exact sv_one _ | exact iv_one _ | with_reducible assumption | (refine One.mem ?_; repeat (first | exact One.bv _ | exact One.sv _ | exact One.iv _ | exact One.nil | exact One.cat0 | refine One.cat1 ?_ ?_ | refine One.cons rfl ?_ | refine One.append ?_ ?_))) sz29 (by first | with_reducible assumption | (simp [cat, length_lsec, length_lback, length_lshown, length_lpub, length_ldig, length_join, hs]; done) | (simp [cat, length_lsec, length_lback, length_lshown, length_lpub, length_ldig, length_join, hs]; omega) | rfl) rfl rfl (by first | with_reducible assumption | (simp [cat, length_lsec, length_lback, length_lshown, length_lpub, length_ldig, length_join, hs]; done) | (simp [cat, length_lsec, length_lback, length_lshown, length_lpub, length_ldig, length_join, hs]; omega) | rfl)) rfl ?_
              intro _ w S
              have hS := S.pk [2, 3, 4] rfl
              refine ⟨hS, ?_⟩
              refine q_nil ?_
              refine t_stop ?_
              refine p_does (d_storeW S 0 rfl rfl (by first | exact bv_one _ | exact sv_one _ | exact iv_one _ | with_reducible assumption | (refine One.mem ?_; repeat (first | exact One.bv _ | exact One.sv _ | exact One.iv _ | exact One.nil | exact One.cat0 | refine One.cat1 ?_ ?_ | refine One.cons rfl ?_ | refine One.append ?_ ?_))) sz29 (by first | with_reducible assumption | (simp [cat, length_lsec, length_lback, length_lshown, length_lpub, length_ldig, length_join, hs]; done) | (simp [cat, length_lsec, length_lback, length_lshown, length_lpub, length_ldig, length_join, hs]; omega) | rfl) rfl rfl (by first | with_reducible assumption | (simp [cat, length_lsec, length_lback, length_lshown, length_lpub, length_ldig, length_join, hs]; done) | (simp [cat, length_lsec, length_lback, length_lshown, length_lpub, length_ldig, length_join, hs]; omega) | rfl)) rfl ?_
              intro _ w S
              exact p_nil (x_then ⟨_, rfl, _, _, _, upds_eq ⟨rfl, rfl, rfl, rfl, rfl, rfl, rfl, trivial⟩, S.pk [1, 0, 2, 3, 4] rfl⟩)
            · exact t_none
        · refine t_fork ?_ ?_
          · refine q_does (d_allocA S zvS) rfl ?_
            rintro _ w ⟨y10, rfl, S⟩
            have hS := S.pk [1, 2, 3] rfl
            refine ⟨hS, ?_⟩
            refine q_nil ?_
            refine t_fork ?_ ?_
            · refine q_does (d_call Try.func27 nm27 rfl rfl (l4sec_calls _ _ _ _ (by first | with_reducible assumption | (simp [cat, length_lsec, length_lback, length_lshown, length_lpub, length_ldig, length_join, hs]; done) | (simp [cat, length_lsec, length_lback, length_lshown, length_lpub, length_ldig, length_join, hs]; omega) | rfl))) rfl ?_
              rintro _ w ⟨rfl, hB⟩
              have S := S.below hB
              have hS := S.pk [1, 2, 3] rfl
              refine ⟨hS, ?_⟩
              refine q_nil ?_
              refine t_fork ?_ ?_
              · refine q_does (d_call Try.func27 nm27 rfl rfl (l4sec_calls _ _ _ _ (by first | with_reducible assumption | (simp [cat, length_lsec, length_lback, length_lshown, length_lpub, length_ldig, length_join, hs]; done) | (simp [cat, length_lsec, length_lback, length_lshown, length_lpub, length_ldig, length_join, hs]; omega) | rfl))) rfl ?_
                rintro _ w ⟨rfl, hB⟩
                have S := S.below hB
                have hS := S.pk [1, 2, 3] rfl
                refine ⟨hS, ?_⟩
                refine q_nil ?_
                refine t_fork ?_ ?_
                · refine q_does (d_call Try.func28 nm28 rfl rfl (l4shown_calls _ _ (by first | with_reducible assumption | (simp [cat, length_lsec, length_lback, length_lshown, length_lpub, length_ldig, length_join, hs]; done) | (simp [cat, length_lsec, length_lback, length_lshown, length_lpub, length_ldig, length_join, hs]; omega) | rfl))) rfl ?_
                  rintro _ w ⟨rfl, hB⟩
                  have S := S.below hB
                  have hS := S.pk [1, 2, 3] rfl
                  refine ⟨hS, ?_⟩
                  refine q_nil ?_
                  refine t_sq ?_
                  refine q_does (d_allocA S zvS) rfl ?_
                  rintro _ w ⟨y9, rfl, S⟩
                  have hS := S.pk [2, 3, 4] rfl
                  refine ⟨hS, ?_⟩
                  refine q_does (d_storeW S 0 rfl rfl (by first | exact bv_one _ | exact sv_one _ | exact iv_one _ | with_reducible assumption | (refine One.mem ?_; repeat (first | exact One.bv _ | exact One.sv _ | exact One.iv _ | exact One.nil | exact One.cat0 | refine One.cat1 ?_ ?_ | refine One.cons rfl ?_ | refine One.append ?_ ?_))) sz29 (by first | with_reducible assumption | (simp [cat, length_lsec, length_lback, length_lshown, length_lpub, length_ldig, length_join, hs]; done) | (simp [cat, length_lsec, length_lback, length_lshown, length_lpub, length_ldig, length_join, hs]; omega) | rfl) rfl rfl (by first | with_reducible assumption | (simp [cat, length_lsec, length_lback, length_lshown, length_lpub, length_ldig, length_join, hs]; done) | (simp [cat, length_lsec, length_lback, length_lshown, length_lpub, length_ldig, length_join, hs]; omega) | rfl)) rfl ?_
                  intro _ w S
                  have hS := S.pk [2, 3, 4] rfl
                  refine ⟨hS, ?_⟩
                  refine q_nil ?_
                  refine t_stop ?_
                  refine p_does (d_storeW S 1 rfl rfl (by first | exact bv_one _ | exact sv_one _ | exact iv_one _ | with_reducible assumption | (refine One.mem ?_; repeat (first | exact One.bv _ | exact One.sv _ | exact One.iv _ | exact One.nil | exact One.cat0 | refine One.cat1 ?_ ?_ | refine One.cons rfl ?_ | refine One.append ?_ ?_))) sz29 (by first | with_reducible assumption | (simp [cat, length_lsec, length_lback, length_lshown, length_lpub, length_ldig, length_join, hs]; done) | (simp [cat, length_lsec, length_lback, length_lshown, length_lpub, length_ldig, length_join, hs]; omega) | rfl) rfl rfl (by first | with_reducible assumption | (simp [cat, length_lsec, length_lback, length_lshown, length_lpub, length_ldig, length_join, hs]; done) | (simp [cat, length_lsec, length_lback, length_lshown, length_lpub, length_ldig, length_join, hs]; omega) | rfl)) rfl ?_
                  intro _ w S
                  exact p_nil (x_then ⟨_, rfl, _, _, _, upds_eq ⟨rfl, rfl, rfl, rfl, rfl, rfl, rfl, trivial⟩, S.pk [0, 1, 2, 3, 4] rfl⟩)
                · refine t_fork ?_ ?_
                  · refine q_does (d_allocA S zvS) rfl ?_
                    rintro _ w ⟨y9, rfl, S⟩
                    have hS := S.pk [2, 3, 4] rfl
                    refine ⟨hS, ?_⟩
                    refine q_nil ?_
                    refine t_sq ?_
                    refine q_does (d_call Try.func28 nm28 rfl rfl (l4shown_calls _ _ (by first | with_reducible assumption | (simp [cat, length_lsec, length_lback, length_lshown, length_lpub, length_ldig, length_join, hs]; done) | (simp [cat, length_lsec, length_lback, length_lshown, length_lpub, length_ldig, length_join, hs]; omega) | rfl))) rfl ?_
                    rintro _ w ⟨rfl, hB⟩
                    have S := S.below hB
                    have hS := S.pk [2, 3, 4] rfl
                    refine ⟨hS, ?_⟩
                    refine q_does (d_storeW S 0 rfl rfl (by first | exact bv_one _ | exact sv_one _ | exact iv_one _ | with_reducible assumption | (refine One.mem ?_; repeat (first | exact One.bv _ | exact One.sv _ | exact One.iv _ | exact One.nil | exact One.cat0 | refine One.cat1 ?_ ?_ | refine One.cons rfl ?_ | refine One.append ?_ ?_))) sz29 (by first | with_reducible assumption | (simp [cat, length_lsec, length_lback, length_lshown, length_lpub, length_ldig, length_join, hs]; done) | (simp [cat, length_lsec, length_lback, length_lshown, length_lpub, length_ldig, length_join, hs]; omega) | rfl) rfl rfl (by first | with_reducible assumption | (simp [cat, length_lsec, length_lback, length_lshown, length_lpub, length_ldig, length_join, hs]; done) | (simp [cat, length_lsec, length_lback, length_lshown, length_lpub, length_ldig, length_join, hs]; omega) | rfl)) rfl ?_
                    intro _ w S
                    have hS := S.pk [2, 3, 4] rfl
                    refine ⟨hS, ?_⟩
                    refine q_nil ?_
                    refine t_stop ?_
                    refine p_does (d_storeW S 1 rfl rfl (by first | exact bv_one _ | exact sv_one _ | exact iv_one _ | with_reducible assumption | (refine One.mem ?_; repeat (first | exact One.bv _ | exact One.sv _ | exact One.iv _ | exact One.nil | exact One.cat0 | refine One.cat1 ?_ ?_ | refine One.cons rfl ?_ | refine One.append ?_ ?_))) sz29 (by first | with_reducible assumption | (simp [cat, length_lsec, length_lback, length_lshown, length_lpub, length_ldig, length_join, hs]; done) | (simp [cat, length_lsec, length_lback, length_lshown, length_lpub, length_ldig, length_join, hs]; omega) | rfl) rfl rfl (by first | with_reducible assumption | (simp [cat, length_lsec, length_lback, length_lshown, length_lpub, length_ldig, length_join, hs]; done) | (simp [cat, length_lsec, length_lback, length_lshown, length_lpub, length_ldig, length_join, hs]; omega) | rfl)) rfl ?_
                    intro _ w S
                    exact p_nil (x_then ⟨_, rfl, _, _, _, upds_eq ⟨rfl, rfl, rfl, rfl, rfl, rfl, rfl, trivial⟩, S.pk [0, 1, 2, 3, 4] rfl⟩)
                  · exact t_none
              · refine t_fork ?_ ?_
                · refine q_does (d_allocA S zvS) rfl ?_
                  rintro _ w ⟨y9, rfl, S⟩
                  have hS := S.pk [2, 3, 4] rfl
                  refine ⟨hS, ?_⟩
                  refine q_nil ?_
                  refine t_sq ?_
                  refine q_does (d_call Try.func27 nm27 rfl rfl (l4sec_calls _ _ _ _ (by first | with_reducible assumption | (simp [cat, length_lsec, length_lback, length_lshown, length_lpub, length_ldig, length_join, hs]; done) | (simp [cat, length_lsec, length_lback, length_lshown, length_lpub, length_ldig, length_join, hs]; omega) | rfl))) rfl ?_
                  rintro _ w ⟨rfl, hB⟩
                  have S := S.below hB
                  have hS := S.pk [2, 3, 4] rfl
                  refine ⟨hS, ?_⟩
                  refine q_does (d_call Try.func28 nm28 rfl rfl (l4shown_calls _ _ (by first | with_reducible assumption | (simp [cat, length_lsec, length_lback, length_lshown, length_lpub, length_ldig, length_join, hs]; done) | (simp [cat, length_lsec, length_lback, length_lshown, length_lpub, length_ldig, length_join, hs]; omega) | rfl))) rfl ?_
                  rintro _ w ⟨rfl, hB⟩
                  have S := S.below hB
                  have hS := S.pk [2, 3, 4] rfl
                  refine ⟨hS, ?_⟩
                  refine q_does (d_storeW S 0 rfl rfl (by first | exact bv_one _ | exact sv_one _ | exact iv_one _ | with_reducible assumption | (refine One.mem ?_; repeat (first | exact One.bv _ | exact One.sv _ | exact One.iv _ | exact One.nil | exact One.cat0 | refine One.cat1 ?_ ?_ | refine One.cons rfl ?_ | refine One.append ?_ ?_))) sz29 (by first | with_reducible assumption | (simp [cat, length_lsec, length_lback, length_lshown, length_lpub, length_ldig, length_join, hs]; done) | (simp [cat, length_lsec, length_lback, length_lshown, length_lpub, length_ldig, length_join, hs]; omega) | rfl) rfl rfl (by first | with_reducible assumption | (simp [cat, length_lsec, length_lback, length_lshown, length_lpub, length_ldig, length_join, hs]; done) | (simp [cat, length_lsec, length_lback, length_lshown, length_lpub, length_ldig, length_join, hs]; omega) | rfl)) rfl ?_
                  intro _ w S
                  have hS := S.pk [2, 3, 4] rfl
                  refine ⟨hS, ?_⟩
                  refine q_nil ?_
                  refine t_stop ?_
                  refine p_does (d_storeW S 1 rfl rfl (by first | exact bv_one _ | exact sv_one _ | exact iv_one _ | with_reducible assumption | (refine One.mem ?_; repeat (first | exact One.bv _ | exact One.sv _ | exact One.iv _ | exact One.nil | exact One.cat0 | refine One.cat1 ?_ ?_ | refine One.cons rfl ?_ | refine One.append ?_ ?_))) sz29 (by first | with_reducible assumption | (simp [cat, length_lsec, length_lback, length_lshown, length_lpub, length_ldig, length_join, hs]; done) | (simp [cat, length_lsec, length_lback, length_lshown, length_lpub, length_ldig, length_join, hs]; omega) | rfl) rfl rfl (by first | with_reducible assumption | (simp [cat, length_lsec, length_lback, length_lshown, length_lpub, length_ldig, length_join, hs]; done) | (simp [cat, length_lsec, length_lback, length_lshown, length_lpub, length_ldig, length_join, hs]; omega) | rfl)) rfl ?_
                  intro _ w S
                  exact p_nil (x_then ⟨_, rfl, _, _, _, upds_eq ⟨rfl, rfl, rfl, rfl, rfl, rfl, rfl, trivial⟩, S.pk [0, 1, 2, 3, 4] rfl⟩)
                · exact t_none
            · refine t_fork ?_ ?_
              · refine q_does (d_allocA S zvS) rfl ?_
                rintro _ w ⟨y9, rfl, S⟩
                have hS := S.pk [2, 3, 4] rfl
                refine ⟨hS, ?_⟩
                refine q_nil ?_
                refine t_sq ?_
                refine q_does (d_call Try.func27 nm27 rfl rfl (l4sec_calls _ _ _ _ (by first | with_reducible assumption | (simp [cat, length_lsec, length_lback, length_lshown, length_lpub, length_ldig, length_join, hs]; done) | (simp [cat, length_lsec, length_lback, length_lshown, length_lpub, length_ldig, length_join, hs]; omega) | rfl))) rfl ?_
                rintro _ w ⟨rfl, hB⟩
                have S := S.below hB
                have hS := S.pk [2, 3, 4] rfl
                refine ⟨hS, ?_⟩
                refine q_does (d_call Try.func27 nm27 rfl rfl (l4sec_calls _ _ _ _ (by first | with_reducible assumption | (simp [cat, length_lsec, length_lback, length_lshown, length_lpub, length_ldig, length_join, hs]; done) | (simp [cat, length_lsec, length_lback, length_lshown, length_lpub, length_ldig, length_join, hs]; omega) | rfl))) rfl ?_
                rintro _ w ⟨rfl, hB⟩
                have S := S.below hB
                have hS := S.pk [2, 3, 4] rfl
                refine ⟨hS, ?_⟩
                refine q_does (d_call Try.func28 nm28 rfl rfl (l4shown_calls _ _ (by first | with_reducible assumption | (simp [cat, length_lsec, length_lback, length_lshown, length_lpub, length_ldig, length_join, hs]; done) | (simp [cat, length_lsec, length_lback, length_lshown, length_lpub, length_ldig, length_join, hs]; omega) | rfl))) rfl ?_
                rintro _ w ⟨rfl, hB⟩
                have S := S.below hB
                have hS := S.pk [2, 3, 4] rfl
                refine ⟨hS, ?_⟩
                refine q_does (d_storeW S 0 rfl rfl (by first | exact bv_one _ | exact sv_one _ | exact iv_one _ | with_reducible assumption | (refine One.mem ?_; repeat (first | exact One.bv _ | exact One.sv _ | exact One.iv _ | exact One.nil | exact One.cat0 | refine One.cat1 ?_ ?_ | refine One.cons rfl ?_ | refine One.append ?_ ?_))) sz29 (by first | with_reducible assumption | (simp [cat, length_lsec, length_lback, length_lshown, length_lpub, length_ldig, length_join, hs]; done) | (simp [cat, length_lsec, length_lback, length_lshown, length_lpub, length_ldig, length_join, hs]; omega) | rfl) rfl rfl (by first | with_reducible assumption | (simp [cat, length_lsec, length_lback, length_lshown, length_lpub, length_ldig, length_join, hs]; done) | (simp [cat, length_lsec, length_lback, length_lshown, length_lpub, length_ldig, length_join, hs]; omega) | rfl)) rfl ?_
                intro _ w S
                have hS := S.pk [2, 3, 4] rfl
                refine ⟨hS, ?_⟩
                refine q_nil ?_
                refine t_stop ?_
                refine p_does (d_storeW S 1 rfl rfl (by first | exact bv_one _ | exact sv_one _ | exact iv_one _ | with_reducible assumption | (refine One.mem ?_; repeat (first | exact One.bv _ | exact One.sv _ | exact One.iv _ | exact One.nil | exact One.cat0 | refine One.cat1 ?_ ?_ | refine One.cons rfl ?_ | refine One.append ?_ ?_))) sz29 (by first | with_reducible assumption | (simp [cat, length_lsec, length_lback, length_lshown, length_lpub, length_ldig, length_join, hs]; done) | (simp [cat, length_lsec, length_lback, length_lshown, length_lpub, length_ldig, length_join, hs]; omega) | rfl) rfl rfl (by first | with_reducible assumption | (simp [cat, length_lsec, length_lback, length_lshown, length_lpub, length_ldig, length_join, hs]; done) | (simp [cat, length_lsec, length_lback, length_lshown, length_lpub, length_ldig, length_join, hs]; omega) | rfl)) rfl ?_
                intro _ w S
                exact p_nil (x_then ⟨_, rfl, _, _, _, upds_eq ⟨rfl, rfl, rfl, rfl, rfl, rfl, rfl, trivial⟩, S.pk [0, 1, 2, 3, 4] rfl⟩)
              · exact t_none
          · exact t_none
    · rintro f w ⟨u, y9, y10, rfl, S⟩
      refine x_then (s_seq (s_plain ?_))
      refine p_val (e_move (v := .slice _ _ _) rfl) rfl ?_
      refine p_val (e_sl_arr rfl Try.underlying29 sz5) rfl ?_
      refine p_does (d_append S 2 rfl rfl Try.underlying33 el5 rfl rfl (S.rdBytes 0 rfl rfl (by first | with_reducible assumption | (simp [cat, length_lsec, length_lback, length_lshown, length_lpub, length_ldig, length_join, hs]; done) | (simp [cat, length_lsec, length_lback, length_lshown, length_lpub, length_ldig, length_join, hs]; omega) | rfl)) (by first | exact bv_one _ | exact sv_one _ | exact iv_one _ | with_reducible assumption | (refine One.mem ?_; repeat (first | exact One.bv _ | exact One.sv _ | exact One.iv _ | exact One.nil | exact One.cat0 | refine One.cat1 ?_ ?_ | refine One.cons rfl ?_ | refine One.append ?_ ?_))) (by omega) (by unfold maxLen; omega)) rfl ?_
      rintro _ w ⟨k38, c38, rfl, S⟩
      refine p_val (e_assign (v := .slice _ _ _) rfl) rfl ?_
      refine p_nil (x_then (s_seq (s_plain ?_)))
      refine p_val (e_move (v := .slice _ _ _) rfl) rfl ?_
      refine p_val (e_sl_arr rfl Try.underlying29 sz5) rfl ?_
      refine p_does (d_append S 2 rfl rfl Try.underlying33 el5 rfl rfl (S.rdBytes 1 rfl rfl (by first | with_reducible assumption | (simp [cat, length_lsec, length_lback, length_lshown, length_lpub, length_ldig, length_join, hs]; done) | (simp [cat, length_lsec, length_lback, length_lshown, length_lpub, length_ldig, length_join, hs]; omega) | rfl)) (by first | exact bv_one _ | exact sv_one _ | exact iv_one _ | with_reducible assumption | (refine One.mem ?_; repeat (first | exact One.bv _ | exact One.sv _ | exact One.iv _ | exact One.nil | exact One.cat0 | refine One.cat1 ?_ ?_ | refine One.cons rfl ?_ | refine One.append ?_ ?_))) (by omega) (by unfold maxLen; omega)) rfl ?_
      rintro _ w ⟨k41, c41, rfl, S⟩
      refine p_val (e_assign (v := .slice _ _ _) rfl) rfl ?_
      refine p_nil (x_then (s_seq (s_plain ?_)))
      refine p_val (e_assign (v := .int _ _) rfl) rfl ?_
      refine p_nil (x_then (s_block ?_))
      refine s_loopK (α := Nat) (ks := [some y9, some y10, k41, Kk5, some b2]) (ps := [Ex _ _, Ex _ _, Rw _ _ _ _ _, Rw _ _ _ _ _, Ex _ _]) [(1, .slice _ _ _), (2, .pointer _), (6, .slice _ _ _), (7, .int _ _)] ⟨rfl, rfl, rfl, rfl, trivial⟩ S (fun keep ks ps h f' w' => ∃ u Kk5 Ck5 m5 x5, f' = upds u ((5, .slice (at_ Kk5) (m5) Ck5) :: (11, .int .i64 (h : Int)) :: keep) ∧ (h ≤ 2) ∧ (m5 = 64 * g + 32 * h) ∧ (x5 = bv (pubB s g ++ pubI s g h)) ∧ St w0 w' [] [some y9, some y10, k41, Kk5, some b2] [(ps.getD 0 fun _ => True), (ps.getD 1 fun _ => True), (ps.getD 2 fun _ => True), Rw 5 1 (m5) Ck5 (x5), (ps.getD 4 fun _ => True)]) (fun h => 2 - h) (0) (⟨_, _, _, _, _, upds_eq ⟨rfl, rfl, rfl, rfl, rfl, rfl, trivial⟩, by first | omega | rfl | with_reducible assumption | (simp; done) | (simp; omega), by first | omega | rfl | with_reducible assumption | (simp; done) | (simp; omega), by simp [pubI], S⟩) ?_
      rintro h f w ⟨u, Kk5, Ck5, m5, x5, rfl, hh, rfl, rfl, S⟩
      refine s_seq (s_seq (s_plain ?_))
      refine p_val (e_move (v := .int _ _) rfl) rfl ?_
      refine p_val (e_lss rfl rfl) rfl ?_
      refine p_nil (x_then ?_)
      refine s_cond rfl (fun hc43 => ?_) (fun hc43 => ?_)
      · refine s_skip (x_then (s_seq (s_block (s_seq (s_plain ?_)))))
        refine p_val (e_loadW 4 rfl ag29 sz29 S rfl rfl (by first | with_reducible assumption | (simp [cat, length_lsec, length_lback, length_lshown, length_lpub, length_ldig, length_join, hs]; done) | (simp [cat, length_lsec, length_lback, length_lshown, length_lpub, length_ldig, length_join, hs]; omega) | rfl)) rfl ?_
        refine p_val (e_move (v := .int _ _) rfl) rfl ?_
        refine p_val (e_move (v := .int _ _) rfl) rfl ?_
        refine p_does (d_call Try.func27 nm27 rfl rfl (l4sec_calls _ _ _ _ (by first | with_reducible assumption | (simp [cat, length_lsec, length_lback, length_lshown, length_lpub, length_ldig, length_join, hs]; done) | (simp [cat, length_lsec, length_lback, length_lshown, length_lpub, length_ldig, length_join, hs]; omega) | rfl))) rfl ?_
        rintro _ w ⟨rfl, hB⟩
        have S := S.below hB
        refine p_does (d_call Try.func28 nm28 rfl rfl (l4shown_calls _ _ (by first | with_reducible assumption | (simp [cat, length_lsec, length_lback, length_lshown, length_lpub, length_ldig, length_join, hs]; done) | (simp [cat, length_lsec, length_lback, length_lshown, length_lpub, length_ldig, length_join, hs]; omega) | rfl))) rfl ?_
        rintro _ w ⟨rfl, hB⟩
        have S := S.below hB
        refine p_does (d_allocA S zvS) rfl ?_
        rintro _ w ⟨b12, rfl, S⟩
        refine p_does (d_storeW S 0 rfl rfl (by first | exact bv_one _ | exact sv_one _ | exact iv_one _ | with_reducible assumption | (refine One.mem ?_; repeat (first | exact One.bv _ | exact One.sv _ | exact One.iv _ | exact One.nil | exact One.cat0 | refine One.cat1 ?_ ?_ | refine One.cons rfl ?_ | refine One.append ?_ ?_))) sz29 (by first | with_reducible assumption | (simp [cat, length_lsec, length_lback, length_lshown, length_lpub, length_ldig, length_join, hs]; done) | (simp [cat, length_lsec, length_lback, length_lshown, length_lpub, length_ldig, length_join, hs]; omega) | rfl) rfl rfl (by first | with_reducible assumption | (simp [cat, length_lsec, length_lback, length_lshown, length_lpub, length_ldig, length_join, hs]; done) | (simp [cat, length_lsec, length_lback, length_lshown, length_lpub, length_ldig, length_join, hs]; omega) | rfl)) rfl ?_
        intro _ w S
        refine p_nil (x_then (s_plain ?_))
        refine p_val (e_move (v := .slice _ _ _) rfl) rfl ?_
        refine p_val (e_sl_arr rfl Try.underlying29 sz5) rfl ?_
        refine p_does (d_append S 4 rfl rfl Try.underlying33 el5 rfl rfl (S.rdBytes 0 rfl rfl (by first | with_reducible assumption | (simp [cat, length_lsec, length_lback, length_lshown, length_lpub, length_ldig, length_join, hs]; done) | (simp [cat, length_lsec, length_lback, length_lshown, length_lpub, length_ldig, length_join, hs]; omega) | rfl)) (by first | exact bv_one _ | exact sv_one _ | exact iv_one _ | with_reducible assumption | (refine One.mem ?_; repeat (first | exact One.bv _ | exact One.sv _ | exact One.iv _ | exact One.nil | exact One.cat0 | refine One.cat1 ?_ ?_ | refine One.cons rfl ?_ | refine One.append ?_ ?_))) (by omega) (by unfold maxLen; omega)) rfl ?_
        rintro _ w ⟨k53, c53, rfl, S⟩
        refine p_val (e_assign (v := .slice _ _ _) rfl) rfl ?_
        refine p_nil (x_in (x_then (s_plain ?_)))
        refine p_val (e_move (v := .int _ _) rfl) rfl ?_
        refine p_val (e_add64 rfl rfl (by omega)) rfl ?_
        refine p_val (e_assign (v := .int _ _) rfl) rfl ?_
        refine p_nil ?_
        refine x_round (h + 1) _ rfl ⟨_, _, _, _, _, upds_eq ⟨rfl, rfl, rfl, rfl, rfl, rfl, trivial⟩, by first | omega | rfl | with_reducible assumption | (simp; done) | (simp; omega), by first | omega | rfl | with_reducible assumption | (simp; done) | (simp; omega), by rw [← bv_append, pub_step s g h (by omega), List.append_assoc], S.pk [1, 2, 3, 4, 5] rfl⟩ (by omega)
      · refine s_exit (x_then_exit (x_then_exit (x_in_same (x_in (x_then (s_plain ?_))))))
        refine p_val (e_move (v := .int _ _) rfl) rfl ?_
        refine p_val (e_add64 rfl rfl (by omega)) rfl ?_
        refine p_val (e_assign (v := .int _ _) rfl) rfl ?_
        refine p_nil ?_
        refine x_round (g + 1) _ rfl ⟨_, _, _, _, _, _, _, _, _, upds_eq ⟨rfl, rfl, rfl, rfl, rfl, trivial⟩, by first | omega | rfl | with_reducible assumption | (simp; done) | (simp; omega), by first | omega | rfl | with_reducible assumption | (simp; done) | (simp; omega), by rw [show h = 2 by omega]; rfl, by first | omega | rfl | with_reducible assumption | (simp; done) | (simp; omega), by rw [← bv_append, ← bv_append, sig_step, List.append_assoc], S.pk [2, 3, 4] rfl⟩ (by omega)
  · refine s_exit (x_then_exit (x_then_exit (x_in_same (x_then (s_seq (s_plain ?_))))))
    obtain rfl : g = 64 := by omega
    have hbl := length_pubB s 64
    refine p_val (e_move (v := .slice _ _ _) rfl) rfl ?_
    refine p_does (d_lit1 S Try.underlying90 sz33 zv33 rfl (vs := [.slice _ _ _]) rfl rfl rfl (by decide)) rfl ?_
    rintro _ w ⟨b55, rfl, S⟩
    refine p_does (d_call Try.func19 nm19 rfl rfl (Ret.mono (R' := fun v w' => v = .agg (bv (lpub s)).toArray ∧ Below _ _ w') (join_calls _ 13 _ _ [_] (Parts.one (S.rdRw 0 rfl rfl) (S.rdRw 2 rfl rfl)) (by simp [joinB, len4, hbl]) (by simp)) (fun v w' ⟨hv, hB⟩ => ⟨by rw [hv]; unfold lpub; rfl, hB⟩))) rfl ?_
    rintro _ w ⟨rfl, hB⟩
    have S := S.below hB
    refine p_does (d_allocA S zvS) rfl ?_
    rintro _ w ⟨b13, rfl, S⟩
    refine p_does (d_storeW S 0 rfl rfl (by first | exact bv_one _ | exact sv_one _ | exact iv_one _ | with_reducible assumption | (refine One.mem ?_; repeat (first | exact One.bv _ | exact One.sv _ | exact One.iv _ | exact One.nil | exact One.cat0 | refine One.cat1 ?_ ?_ | refine One.cons rfl ?_ | refine One.append ?_ ?_))) sz29 (by first | with_reducible assumption | (simp [cat, length_lsec, length_lback, length_lshown, length_lpub, length_ldig, length_join, hs]; done) | (simp [cat, length_lsec, length_lback, length_lshown, length_lpub, length_ldig, length_join, hs]; omega) | rfl) rfl rfl (by first | with_reducible assumption | (simp [cat, length_lsec, length_lback, length_lshown, length_lpub, length_ldig, length_join, hs]; done) | (simp [cat, length_lsec, length_lback, length_lshown, length_lpub, length_ldig, length_join, hs]; omega) | rfl)) rfl ?_
    intro _ w S
    refine p_nil (x_then (s_seq (s_plain ?_)))
    refine p_val (e_loadW 4 rfl ag29 sz29 S rfl rfl (by first | with_reducible assumption | (simp [cat, length_lsec, length_lback, length_lshown, length_lpub, length_ldig, length_join, hs]; done) | (simp [cat, length_lsec, length_lback, length_lshown, length_lpub, length_ldig, length_join, hs]; omega) | rfl)) rfl ?_
    refine p_val (e_move (v := .slice _ _ _) rfl) rfl ?_
    refine p_does (d_call Try.func29 nm29 rfl rfl (lsign_calls _ _ _ _ _ _ (by first | with_reducible assumption | (simp [cat, length_lsec, length_lback, length_lshown, length_lpub, length_ldig, length_join, hs]; done) | (simp [cat, length_lsec, length_lback, length_lshown, length_lpub, length_ldig, length_join, hs]; omega) | rfl) (Rd.take_bv (S.rdOld R rfl) (Nat.min_le_left n 200)) (by omega))) rfl ?_
    rintro _ w ⟨k59, c59, rfl, T⟩
    have S := S.merge T rfl
    refine p_val (e_assign (v := .slice _ _ _) rfl) rfl ?_
    refine p_nil (x_then (s_seq (s_plain ?_)))
    refine p_val (e_move (v := .slice _ _ _) rfl) rfl ?_
    refine p_val (e_move (v := .slice _ _ _) rfl) rfl ?_
    refine p_does (d_call Try.func30 nm30 rfl rfl (lback_yes _ _ _ _ _ _ _ _ _ (Rd.take_bv (S.rdOld R rfl) (Nat.min_le_left n 200)) (by omega) (S.rdRw 0 rfl rfl) (S.capRw 0 rfl rfl) (by omega))) rfl ?_
    rintro _ w ⟨rfl, hB⟩
    have S := S.below hB
    refine p_val (e_move (v := .tuple _) rfl) rfl ?_
    refine p_val (e_extract rfl rfl) rfl ?_
    refine p_val (e_extract rfl rfl) rfl ?_
    refine p_does (d_allocA S zvS) rfl ?_
    rintro _ w ⟨b15, rfl, S⟩
    refine p_does (d_storeW S 0 rfl rfl (by first | exact bv_one _ | exact sv_one _ | exact iv_one _ | with_reducible assumption | (refine One.mem ?_; repeat (first | exact One.bv _ | exact One.sv _ | exact One.iv _ | exact One.nil | exact One.cat0 | refine One.cat1 ?_ ?_ | refine One.cons rfl ?_ | refine One.append ?_ ?_))) sz29 (by first | with_reducible assumption | (simp [cat, length_lsec, length_lback, length_lshown, length_lpub, length_ldig, length_join, hs]; done) | (simp [cat, length_lsec, length_lback, length_lshown, length_lpub, length_ldig, length_join, hs]; omega) | rfl) rfl rfl (by first | with_reducible assumption | (simp [cat, length_lsec, length_lback, length_lshown, length_lpub, length_ldig, length_join, hs]; done) | (simp [cat, length_lsec, length_lback, length_lshown, length_lpub, length_ldig, length_join, hs]; omega) | rfl)) rfl ?_
    intro _ w S
    refine p_val (e_assign (v := .int _ _) rfl) rfl ?_
    refine p_nil (x_then (s_seq ?_))
    refine s_cutK (ks := [some b15, k59, some b13, some b55, Kk6, Kk5, some b2]) (ps := [Ex _ _, Rw _ _ _ _ _, Ex _ _, Rw _ _ _ _ _, Rw _ _ _ _ _, Rw _ _ _ _ _, Ex _ _]) [] trivial S (fun keep ks ps f' w' => ∃ u bb, f' = upds u ((4, .bool bb) :: keep) ∧ (bb = true ↔ True) ∧ St w0 w' [] ks ps) ?_ ?_
    · refine s_drawTK (ks := [some b15, k59, some b13, some b55, Kk6, Kk5, some b2]) (ps := [Ex _ _, Rw _ _ _ _ _, Ex _ _, Rw _ _ _ _ _, Rw _ _ _ _ _, Rw _ _ _ _ _, Ex _ _]) S (.sq [(true, 0), (true, 2), (false, 1), (true, 3), (true, 4), (true, 5), (true, 6), (true, 7), (true, 8), (true, 9), (true, 10), (true, 11), (true, 12), (true, 13), (true, 14), (true, 15), (true, 16), (true, 17), (true, 18), (true, 19), (true, 20), (true, 21), (true, 22), (true, 23), (false, 24), (true, 25), (true, 26), (true, 27), (true, 29)] (.fork 28 (.sq [(false, 30), (false, 31), (true, 32), (true, 33), (true, 34), (false, 35), (true, 36)] .stop) (.fork 30 (.sq [(false, 28), (false, 31), (true, 32), (true, 33), (true, 34), (false, 35), (true, 36)] .stop) .none_))) [37] [37] mixed (by kernel_rfl) (by repeat (first | exact Calm.post _ _ _ | refine Calm.then ?_ _ | refine Calm.inB ?_ _)) (fun hS => ?_)
      have S := S.drew
      refine t_sq ?_
      refine q_val (fun w hS => e_loadW 6 rfl ag29 sz29 hS rfl rfl (by first | with_reducible assumption | (simp [cat, length_lsec, length_lback, length_lshown, length_lpub, length_ldig, length_join, hs]; done) | (simp [cat, length_lsec, length_lback, length_lshown, length_lpub, length_ldig, length_join, hs]; omega) | rfl)) rfl hS ?_
      refine q_val (fun w hS => e_loadW 2 rfl ag29 sz29 hS rfl rfl (by first | with_reducible assumption | (simp [cat, length_lsec, length_lback, length_lshown, length_lpub, length_ldig, length_join, hs]; done) | (simp [cat, length_lsec, length_lback, length_lshown, length_lpub, length_ldig, length_join, hs]; omega) | rfl)) rfl hS ?_
      refine q_does (d_call Try.func31 nm31 rfl rfl (lpub_calls _ _ (by first | with_reducible assumption | (simp [cat, length_lsec, length_lback, length_lshown, length_lpub, length_ldig, length_join, hs]; done) | (simp [cat, length_lsec, length_lback, length_lshown, length_lpub, length_ldig, length_join, hs]; omega) | rfl))) rfl ?_
      rintro _ w ⟨rfl, hB⟩
      have S := S.below hB
      have hS := S.pk [0, 1, 2, 3, 4, 5, 6] rfl
      refine ⟨hS, ?_⟩
      refine q_valB (fun w hS => EqT.sum eq29 gd29 rfl rfl (by first | with_reducible assumption | (simp [cat, length_lsec, length_lback, length_lshown, length_lpub, length_ldig, length_join, hs]; done) | (simp [cat, length_lsec, length_lback, length_lshown, length_lpub, length_ldig, length_join, hs]; omega) | rfl) (by first | with_reducible assumption | (simp [cat, length_lsec, length_lback, length_lshown, length_lpub, length_ldig, length_join, hs]; done) | (simp [cat, length_lsec, length_lback, length_lshown, length_lpub, length_ldig, length_join, hs]; omega) | rfl)) rfl hS (fun hg69 => ?_) (fun hg69 => ?_)
      · refine q_val (fun w hS => e_move (v := .bool _) rfl) rfl hS ?_
        refine qg_val rfl rfl rfl rfl rfl (fun w hS => e_move (v := .slice _ _ _) rfl) hS ?_
        refine qg_val rfl rfl rfl rfl rfl (fun w hS => e_bytesStr rfl Try.underlying33 Try.underlying5 Try.underlying9 ((hS.rdRw 1 rfl rfl))) hS ?_
        refine qg_val rfl rfl rfl rfl rfl (fun w hS => e_move (v := .slice _ _ _) rfl) hS ?_
        refine qg_val rfl rfl rfl rfl rfl (fun w hS => e_bytesStr rfl Try.underlying33 Try.underlying5 Try.underlying9 ((hS.rdRw 4 rfl rfl))) hS ?_
        refine qg_valB rfl rfl rfl rfl rfl (fun w hS => e_eqlT rfl rfl (by first | with_reducible assumption | exact lsig_lt _ _ | exact sigB_lt _ _ _) (by first | with_reducible assumption | exact lsig_lt _ _ | exact sigB_lt _ _ _)) hS (fun hg75 => ?_) (fun hg75 => ?_)
        · refine q_val (fun w hS => e_pick_t rfl rfl) rfl hS ?_
          refine q_val (fun w hS => e_move (v := .bool _) rfl) rfl hS ?_
          refine qg_val rfl rfl rfl rfl rfl (fun w hS => e_loadW 0 rfl ag29 sz29 hS rfl rfl (by first | with_reducible assumption | (simp [cat, length_lsec, length_lback, length_lshown, length_lpub, length_ldig, length_join, hs]; done) | (simp [cat, length_lsec, length_lback, length_lshown, length_lpub, length_ldig, length_join, hs]; omega) | rfl)) hS ?_
          refine qg_val rfl rfl rfl rfl rfl (fun w hS => e_loadW 2 rfl ag29 sz29 hS rfl rfl (by first | with_reducible assumption | (simp [cat, length_lsec, length_lback, length_lshown, length_lpub, length_ldig, length_join, hs]; done) | (simp [cat, length_lsec, length_lback, length_lshown, length_lpub, length_ldig, length_join, hs]; omega) | rfl)) hS ?_
          refine qg_valB rfl rfl rfl rfl rfl (fun w hS => EqT.sum eq29 gd29 rfl rfl (by first | with_reducible assumption | (simp [cat, length_lsec, length_lback, length_lshown, length_lpub, length_ldig, length_join, hs]; done) | (simp [cat, length_lsec, length_lback, length_lshown, length_lpub, length_ldig, length_join, hs]; omega) | rfl) (by first | with_reducible assumption | (simp [cat, length_lsec, length_lback, length_lshown, length_lpub, length_ldig, length_join, hs]; done) | (simp [cat, length_lsec, length_lback, length_lshown, length_lpub, length_ldig, length_join, hs]; omega) | rfl)) hS (fun hg80 => ?_) (fun hg80 => ?_)
          · refine q_val (fun w hS => e_pick_t rfl rfl) rfl hS ?_
            refine q_val (fun w hS => e_move (v := .bool _) rfl) rfl hS ?_
            refine qg_val rfl rfl rfl rfl rfl (fun w hS => e_move (v := .int _ _) rfl) hS ?_
            refine qg_valB rfl rfl rfl rfl rfl (fun w hS => e_eql rfl rfl) hS (fun hg84 => ?_) (fun hg84 => ?_)
            · refine q_val (fun w hS => e_pick_t rfl rfl) rfl hS ?_
              refine q_val (fun w hS => e_move (v := .bool _) rfl) rfl hS ?_
              refine qg_val rfl rfl rfl rfl rfl (fun w hS => e_loadW 2 rfl ag29 sz29 hS rfl rfl (by first | with_reducible assumption | (simp [cat, length_lsec, length_lback, length_lshown, length_lpub, length_ldig, length_join, hs]; done) | (simp [cat, length_lsec, length_lback, length_lshown, length_lpub, length_ldig, length_join, hs]; omega) | rfl)) hS ?_
              refine qg_val rfl rfl rfl rfl rfl (fun w hS => e_move (v := .slice _ _ _) rfl) hS ?_
              refine qg_val rfl rfl rfl rfl rfl (fun w hS => e_move (v := .slice _ _ _) rfl) hS ?_
              refine qg_does rfl rfl rfl rfl rfl (d_call Try.func32 nm32 rfl rfl (verify_yes _ _ _ _ _ _ _ _ _ _ (by first | with_reducible assumption | (simp [cat, length_lsec, length_lback, length_lshown, length_lpub, length_ldig, length_join, hs]; done) | (simp [cat, length_lsec, length_lback, length_lshown, length_lpub, length_ldig, length_join, hs]; omega) | rfl) (Rd.take_bv (S.rdOld R rfl) (Nat.min_le_left n 200)) (by omega) (S.rdRw 1 rfl rfl) (S.capRw 1 rfl rfl) (by omega))) ?_
              rintro _ w ⟨rfl, hB⟩
              have S := S.below hB
              have hS := S.pk [0, 1, 2, 3, 4, 5, 6] rfl
              refine ⟨hS, ?_⟩
              rcases Classical.em (lback (l.take (min n 200)) (lsig s (l.take (min n 200))) = lpub s) with hg90 | hg90
              · rw [decide_eq_true hg90]
                refine q_val (fun w hS => e_pick_t rfl rfl) rfl hS ?_
                refine q_val (fun w hS => e_move (v := .bool _) rfl) rfl hS ?_
                refine qg_val rfl rfl rfl rfl rfl (fun w hS => e_move (v := .slice _ _ _) rfl) hS ?_
                refine qg_val rfl rfl rfl rfl rfl (fun w hS => e_move (v := .slice _ _ _) rfl) hS ?_
                refine q_nil ?_
                refine t_fork ?_ ?_
                · refine qg_does rfl rfl rfl rfl rfl (d_call Try.func33 nm33 rfl rfl (ldig_calls _ _ _ _ _ (Rd.take_bv (S.rdOld R rfl) (Nat.min_le_left n 200)) (by omega))) ?_
                  rintro _ w ⟨rfl, hB⟩
                  have S := S.below hB
                  have hS := S.pk [0, 1, 2, 3, 4, 5, 6] rfl
                  refine ⟨hS, ?_⟩
                  refine q_nil ?_
                  refine t_sq ?_
                  refine qg_does rfl rfl rfl rfl rfl (d_lit1 S Try.underlying90 sz33 zv33 rfl (vs := [.slice _ _ _]) rfl rfl rfl (by decide)) ?_
                  rintro _ w ⟨y96, rfl, S⟩
                  have hS := S.pk [1, 2, 3, 4, 5, 6, 7] rfl
                  refine ⟨hS, ?_⟩
                  refine qg_does rfl rfl rfl rfl rfl (d_call Try.func19 nm19 rfl rfl (join_calls _ _ _ _ [_] (Parts.one (S.rdRw 0 rfl rfl) (Rd.take_bv (S.rdOld R rfl) (Nat.min_le_left n 200))) (by first | (simp [joinB, len4, cat, length_lsec, length_lback, length_lshown, length_lpub, length_ldig, length_join, hs]; done) | (simp [joinB, len4, cat, length_lsec, length_lback, length_lshown, length_lpub, length_ldig, length_join, hs]; omega)) (by simp))) ?_
                  rintro _ w ⟨rfl, hB⟩
                  have S := S.below hB
                  have hS := S.pk [1, 2, 3, 4, 5, 6, 7] rfl
                  refine ⟨hS, ?_⟩
                  refine qg_valB rfl rfl rfl rfl rfl (fun w hS => EqT.sum eq29 gd29 rfl rfl (by first | with_reducible assumption | (simp [cat, length_lsec, length_lback, length_lshown, length_lpub, length_ldig, length_join, hs]; done) | (simp [cat, length_lsec, length_lback, length_lshown, length_lpub, length_ldig, length_join, hs]; omega) | rfl) (by first | with_reducible assumption | (simp [cat, length_lsec, length_lback, length_lshown, length_lpub, length_ldig, length_join, hs]; done) | (simp [cat, length_lsec, length_lback, length_lshown, length_lpub, length_ldig, length_join, hs]; omega) | rfl)) hS (fun hg98 => ?_) (fun hg98 => ?_)
                  · refine q_val (fun w hS => e_pick_t rfl rfl) rfl hS ?_
                    refine q_val (fun w hS => e_move (v := .bool _) rfl) rfl hS ?_
                    refine qg_does rfl rfl rfl rfl rfl (d_call Try.func34 nm34 rfl rfl (l4awake_calls _)) ?_
                    rintro _ w ⟨rfl, hB⟩
                    have S := S.below hB
                    have hS := S.pk [1, 2, 3, 4, 5, 6, 7] rfl
                    refine ⟨hS, ?_⟩
                    refine q_val (fun w hS => e_pick_t rfl rfl) rfl hS ?_
                    refine q_nil ?_
                    refine t_stop ?_
                    refine p_val (e_assign (v := .bool _) rfl) rfl ?_
                    exact p_nil (x_then ⟨_, rfl, _, _, upds_eq ⟨rfl, trivial⟩, by first | (simp only [decide_eq_true_eq, eq_self, true_iff, iff_true, iff_false, Bool.false_eq_true, false_iff, ge_iff_le, gt_iff_lt, true_and, and_true, false_and, and_false, true_or, or_true, false_or, or_false, not_true_eq_false, not_false_eq_true]; omega) | simp | omega | simp_all, S.pk [1, 2, 3, 4, 5, 6, 7] rfl⟩)
                  · exact False.elim (hg98 rfl)
                · refine t_fork ?_ ?_
                  · refine qg_does rfl rfl rfl rfl rfl (d_lit1 S Try.underlying90 sz33 zv33 rfl (vs := [.slice _ _ _]) rfl rfl rfl (by decide)) ?_
                    rintro _ w ⟨y96, rfl, S⟩
                    have hS := S.pk [1, 2, 3, 4, 5, 6, 7] rfl
                    refine ⟨hS, ?_⟩
                    refine q_nil ?_
                    refine t_sq ?_
                    refine qg_does rfl rfl rfl rfl rfl (d_call Try.func33 nm33 rfl rfl (ldig_calls _ _ _ _ _ (Rd.take_bv (S.rdOld R rfl) (Nat.min_le_left n 200)) (by omega))) ?_
                    rintro _ w ⟨rfl, hB⟩
                    have S := S.below hB
                    have hS := S.pk [1, 2, 3, 4, 5, 6, 7] rfl
                    refine ⟨hS, ?_⟩
                    refine qg_does rfl rfl rfl rfl rfl (d_call Try.func19 nm19 rfl rfl (join_calls _ _ _ _ [_] (Parts.one (S.rdRw 0 rfl rfl) (Rd.take_bv (S.rdOld R rfl) (Nat.min_le_left n 200))) (by first | (simp [joinB, len4, cat, length_lsec, length_lback, length_lshown, length_lpub, length_ldig, length_join, hs]; done) | (simp [joinB, len4, cat, length_lsec, length_lback, length_lshown, length_lpub, length_ldig, length_join, hs]; omega)) (by simp))) ?_
                    rintro _ w ⟨rfl, hB⟩
                    have S := S.below hB
                    have hS := S.pk [1, 2, 3, 4, 5, 6, 7] rfl
                    refine ⟨hS, ?_⟩
                    refine qg_valB rfl rfl rfl rfl rfl (fun w hS => EqT.sum eq29 gd29 rfl rfl (by first | with_reducible assumption | (simp [cat, length_lsec, length_lback, length_lshown, length_lpub, length_ldig, length_join, hs]; done) | (simp [cat, length_lsec, length_lback, length_lshown, length_lpub, length_ldig, length_join, hs]; omega) | rfl) (by first | with_reducible assumption | (simp [cat, length_lsec, length_lback, length_lshown, length_lpub, length_ldig, length_join, hs]; done) | (simp [cat, length_lsec, length_lback, length_lshown, length_lpub, length_ldig, length_join, hs]; omega) | rfl)) hS (fun hg98 => ?_) (fun hg98 => ?_)
                    · refine q_val (fun w hS => e_pick_t rfl rfl) rfl hS ?_
                      refine q_val (fun w hS => e_move (v := .bool _) rfl) rfl hS ?_
                      refine qg_does rfl rfl rfl rfl rfl (d_call Try.func34 nm34 rfl rfl (l4awake_calls _)) ?_
                      rintro _ w ⟨rfl, hB⟩
                      have S := S.below hB
                      have hS := S.pk [1, 2, 3, 4, 5, 6, 7] rfl
                      refine ⟨hS, ?_⟩
                      refine q_val (fun w hS => e_pick_t rfl rfl) rfl hS ?_
                      refine q_nil ?_
                      refine t_stop ?_
                      refine p_val (e_assign (v := .bool _) rfl) rfl ?_
                      exact p_nil (x_then ⟨_, rfl, _, _, upds_eq ⟨rfl, trivial⟩, by first | (simp only [decide_eq_true_eq, eq_self, true_iff, iff_true, iff_false, Bool.false_eq_true, false_iff, ge_iff_le, gt_iff_lt, true_and, and_true, false_and, and_false, true_or, or_true, false_or, or_false, not_true_eq_false, not_false_eq_true]; omega) | simp | omega | simp_all, S.pk [1, 2, 3, 4, 5, 6, 7] rfl⟩)
                    · exact False.elim (hg98 rfl)
                  · exact t_none
              · exact False.elim (hg90 (back_sign _ _))
            · exact False.elim (hg84 rfl)
          · exact False.elim (hg80 (back_sign _ _))
        · exact False.elim (hg75 rfl)
      · exact False.elim (hg69 rfl)
    · rintro f w ⟨u, b4, rfl, hb4, S⟩
      refine x_then (s_ret ?_)
      exact post1 (v := .bool _) Try.results4 rfl (⟨by rw [hb4.2 trivial], S.to_below⟩)
end Go.Proofs.Ytdhfiamgmokfbaa

/- Arguments opened to cells: what a reading tells of them. It proves no statement by itself. -/
set_option linter.unusedSimpArgs false
set_option linter.unusedVariables false
namespace Go.Proofs.Ytdhfiamgmokfbaa.E
open Go Go.RowKit Go.WideShapes Go.ChangeShapes Go.Deep
section
variable {H : Type} {enc : TypeId × Value → H} {P : Program} {w : World} {base : Nat} {spare : Nat → Bool} {held : Bool} {α : Type}
/-- Whatever is read as of type t is laid as 'c' lays some x that is 'ok'. -/
def Opens (enc : TypeId × Value → H) (P : Program) (w : World) (base : Nat) (spare : Nat → Bool) (held : Bool) (t : TypeId) (c : α → List Value) (ok : α → Prop) : Prop :=
  ∀ (fuel : Nat) (cs : List Value) (y : DataW H × List MemPlace), DataW.trod enc P w base spare held fuel t cs = some y → ∃ x, cs = c x ∧ ok x
theorem u8_range {n : Int} (h : (Lit.int .u8 n).wf = true) : 0 ≤ n ∧ n < 256 := by
  have : 0 ≤ n ∧ n ≤ 255 := by simpa [Lit.wf, IntKind.min, IntKind.max, IntKind.signed, IntKind.bits] using h
  omega
theorem i64_range {n : Int} (h : (Lit.int .i64 n).wf = true) : -9223372036854775808 ≤ n ∧ n ≤ 9223372036854775807 := by
  simpa [Lit.wf, IntKind.min, IntKind.max, IntKind.signed, IntKind.bits] using h
theorem opens_u8 {t : TypeId} (ht : P.underlying t = some (.int .u8)) : Opens enc P w base spare held t (fun x : Nat => [Value.int .u8 (x : Int)]) (· < 256) := by
  intro fuel cs y h
  obtain ⟨n, rfl, _, hw⟩ := DataW.trod_int ht h
  have := u8_range hw
  exact ⟨n.toNat, by show [Value.int .u8 n] = [Value.int .u8 ((n.toNat : Nat) : Int)]; rw [Int.toNat_of_nonneg this.1], by omega⟩
theorem opens_i64 {t : TypeId} (ht : P.underlying t = some (.int .i64)) : Opens enc P w base spare held t (fun x : Int => [Value.int .i64 x]) (fun x => -9223372036854775808 ≤ x ∧ x ≤ 9223372036854775807) := by
  intro fuel cs y h
  obtain ⟨n, rfl, _, hw⟩ := DataW.trod_int ht h
  exact ⟨n, rfl, i64_range hw⟩
theorem opens_bool {t : TypeId} (ht : P.underlying t = some .bool) : Opens enc P w base spare held t (fun x : Bool => [Value.bool x]) (fun _ => True) := by
  intro fuel cs y h
  obtain ⟨n, rfl, _⟩ := DataW.trod_bool ht h
  exact ⟨n, rfl, trivial⟩
theorem chunks (s : Nat) (c : α → List Value) (Pk : List Value → α → Prop) : ∀ (n : Nat) (cs : List Value), cs.length = n * s → (∀ i, i < n → ∃ x, (cs.drop (i * s)).take s = c x ∧ Pk ((cs.drop (i * s)).take s) x) → ∃ xs : List α, xs.length = n ∧ cs = xs.flatMap c ∧ ∀ x ∈ xs, ∃ l, Pk l x
  | 0, cs, hl, _ => ⟨[], rfl, List.eq_nil_of_length_eq_zero (by simpa using hl), by simp⟩
  | n + 1, cs, hl, h => by
    obtain ⟨x, hx, hp⟩ := h 0 (by omega)
    simp only [Nat.zero_mul, List.drop_zero] at hx hp
    obtain ⟨xs, h1, h2, h3⟩ := chunks s c Pk n (cs.drop s) (by rw [List.length_drop, hl, Nat.add_mul]; omega) (fun i hi => by
      obtain ⟨y, hy, hq⟩ := h (i + 1) (by omega)
      refine ⟨y, ?_, ?_⟩
      · rw [List.drop_drop, show s + i * s = (i + 1) * s by rw [Nat.add_mul]; omega]; exact hy
      · rw [List.drop_drop, show s + i * s = (i + 1) * s by rw [Nat.add_mul]; omega]; exact hq)
    refine ⟨x :: xs, by simp [h1], ?_, ?_⟩
    · rw [List.flatMap_cons, ← h2, ← hx, List.take_append_drop]
    · intro y hy
      rcases List.mem_cons.1 hy with rfl | hy
      · exact ⟨_, hp⟩
      · exact h3 y hy
theorem opens_arr {t e : TypeId} {n s : Nat} {c : α → List Value} {ok : α → Prop} (ht : P.underlying t = some (.array n e)) (hs : P.cellsOf e = s) (hc : P.cellsOf t = n * s) (h : ∀ base spare held, Opens enc P w base spare held e c ok) :
    Opens enc P w base spare held t (fun xs : List α => xs.flatMap c) (fun xs => xs.length = n ∧ ∀ x ∈ xs, ok x) := by
  intro fuel cs y hy
  obtain ⟨xs, m, _, _, hlen, hxl, hi⟩ := DataW.trod_array ht hy
  rw [hs] at hi
  obtain ⟨ys, h1, h2, h3⟩ := chunks s c (fun _ x => ok x) n cs (by rw [hlen, hc]) (fun i hin => by
    have := hi i hin
    rw [List.getElem?_eq_getElem (by omega)] at this
    obtain ⟨x, hx, ho⟩ := h _ _ _ _ _ _ this
    exact ⟨x, hx, ho⟩)
  exact ⟨ys, h2, h1, fun x hx => (h3 x hx).elim fun _ h => h⟩
theorem bv_map (l : List Nat) : l.flatMap (fun x : Nat => [Value.int .u8 (x : Int)]) = bv l := by
  induction l with
  | nil => rfl
  | cons x l ih => rw [List.flatMap_cons, ih]; rfl
theorem iv_map (l : List Int) : l.flatMap (fun x : Int => [Value.int .i64 x]) = iv l := by
  induction l with
  | nil => rfl
  | cons x l ih => rw [List.flatMap_cons, ih]; rfl
def Bytes (l : List Nat) : Prop := ∀ x ∈ l, x < 256
theorem opens_sum {t e : TypeId} {n : Nat} (ht : P.underlying t = some (.array n e)) (he : P.underlying e = some (.int .u8)) (hs : P.cellsOf e = 1) (hc : P.cellsOf t = n) : Opens enc P w base spare held t bv (fun l => l.length = n ∧ Bytes l) := by
  intro fuel cs y h
  obtain ⟨x, e1, h1, h2⟩ := opens_arr ht hs (by rw [hc, Nat.mul_one]) (fun _ _ _ => opens_u8 he) fuel cs y h
  exact ⟨x, e1.trans (bv_map x), h1, h2⟩
/-- a slice that came in -/
theorem open_row {r : Reach} {b0 : Nat} {t e : TypeId} {s : Nat} {v : Value} {d : DataW H} {p : List MemPlace} {c : α → List Value} {ok : α → Prop} (ht : P.underlying t = some (.slice e)) (hs : P.cellsOf e = s) (hv : Value.okWide P w r b0 t v)
    (h : DataW.Trod enc P w base spare held t v d p) (ho : ∀ base spare held, Opens enc P w base spare held e c ok) (hl : ∀ x, ok x → (c x).length = s) :
    ∃ (A : Option Addr) (n cap : Nat) (xs : List α), v = .slice A n cap ∧ xs.length = n ∧ n ≤ cap ∧ cap ≤ maxLen ∧ (∀ x ∈ xs, ok x) ∧ Rd w s A n (xs.flatMap c) := by
  obtain ⟨A, n, cap, rfl⟩ := okWide_slice ht hv
  obtain ⟨fuel, hf⟩ := h
  rcases open_slice ht hf with ⟨e0, _⟩ | ⟨a, len, cap', m, k, D, Pl, e0, hb, h1, h2, hm, hx, hi⟩
  · simp [Value.cells] at e0
    obtain ⟨rfl, rfl, rfl⟩ := e0
    exact ⟨none, 0, 0, [], rfl, rfl, Nat.le_refl _, Nat.zero_le _, by simp, Rd.nil _ _ _⟩
  · simp [Value.cells] at e0
    obtain ⟨rfl, rfl, rfl⟩ := e0
    have hle : n ≤ m := by rw [hm]; split <;> omega
    have key : ∀ n', n' ≤ n → ∃ xs : List α, xs.length = n' ∧ (∀ x ∈ xs, ok x) ∧ ∀ i x, xs[i]? = some x → ∀ j u, (c x)[j]? = some u → w.cell? (a.add (i * s + j)) = some u := by
      intro n'
      induction n' with
      | zero => intro _; exact ⟨[], rfl, by simp, by simp⟩
      | succ n' ih =>
        intro hn'
        obtain ⟨xs, e1, e2, e3⟩ := ih (by omega)
        obtain ⟨cs', hc', ht'⟩ := hi n' (by omega)
        rw [hs] at hc'
        obtain ⟨_, hcl, hat⟩ := World.cells?_some hc'
        obtain ⟨x, rfl, hox⟩ := ho _ _ _ _ _ _ ht'
        refine ⟨xs ++ [x], by simp [e1], fun y hy => ?_, fun i y hy j u hu => ?_⟩
        · rcases List.mem_append.1 hy with hy | hy
          · exact e2 y hy
          · rw [List.mem_singleton.1 hy]; exact hox
        · rcases Nat.lt_or_ge i n' with hi' | hi'
          · rw [List.getElem?_append_left (by omega)] at hy
            exact e3 i y hy j u hu
          · rw [List.getElem?_append_right (by omega)] at hy
            have hi0 : i - xs.length = 0 := by
              have := (List.getElem?_eq_some_iff.1 hy).1
              simp at this
              omega
            rw [hi0] at hy
            simp at hy
            subst hy
            have hj := (List.getElem?_eq_some_iff.1 hu).1
            have := hat j (by omega)
            rw [show i = n' by omega, ← E.add_add, this]
            exact hu
    obtain ⟨xs, e1, e2, e3⟩ := key n (Nat.le_refl _)
    refine ⟨some a, n, cap, xs, rfl, e1, h1, h2, e2, ?_, fun j u hu => ⟨a, rfl, ?_⟩⟩
    · rw [flatMap_len (s := s) fun x hx => hl x (e2 x hx), e1]
    · have hj := (List.getElem?_eq_some_iff.1 hu).1
      rw [flatMap_len (s := s) fun x hx => hl x (e2 x hx), e1] at hj
      have hs0 : 0 < s := by
        rcases Nat.eq_zero_or_pos s with h0 | h0
        · subst h0; omega
        · exact h0
      have hi' : j / s < n := (Nat.div_lt_iff_lt_mul hs0).2 hj
      have hx : xs[j / s]? = some (xs[j / s]'(by omega)) := List.getElem?_eq_getElem (by omega)
      have hjm : j % s < s := Nat.mod_lt _ hs0
      have hdm : j / s * s + j % s = j := by rw [Nat.mul_comm]; exact Nat.div_add_mod j s
      have := flatMap_at (s := s) (c := c) (fun x hx => hl x (e2 x hx)) hx hjm
      rw [hdm] at this
      rw [this] at hu
      have h3 := e3 _ _ hx _ _ hu
      rwa [hdm] at h3
/-- an array or a struct by value -/
theorem open_val {r : Reach} {b0 : Nat} {t : TypeId} {v : Value} {d : DataW H} {p : List MemPlace} {c : α → List Value} {ok : α → Prop} (hagg : ∃ cs, v = .agg cs)
    (h : DataW.Trod enc P w base spare held t v d p) (ho : Opens enc P w base spare held t c ok) : ∃ x, v = .agg (c x).toArray ∧ ok x := by
  obtain ⟨cs, rfl⟩ := hagg
  obtain ⟨fuel, hf⟩ := h
  obtain ⟨x, e, hx⟩ := ho _ _ _ hf
  refine ⟨x, ?_, hx⟩
  rw [← e]
  rfl
end
end Go.Proofs.Ytdhfiamgmokfbaa.E

/- What a reader of bytes does, as functions on lists; where its slice lies. It proves no statement by itself. -/
set_option linter.unusedSimpArgs false
set_option linter.unusedVariables false
namespace Go.Proofs.Ytdhfiamgmokfbaa.E
open Go Go.RowKit
def rFail (x e : Int) : Int := if e = 0 then x else e
def rn : Nat → Nat → Nat → List Nat → Int ⊕ (Nat × List Nat)
  | 0, _, _, _ => .inl 5
  | _ + 1, _, _, [] => .inl 2
  | r + 1, i, v, c :: l => if c < 128 then (if c = 0 ∧ 0 < i then .inl 4 else .inr (v + c % 128 * 128 ^ i, l)) else rn r (i + 1) (v + c % 128 * 128 ^ i) l
def rNum (e : Int) (l : List Nat) : Int × Int × List Nat :=
  if e = 0 then (match rn 9 0 0 l with | .inl x => (0, x, l) | .inr (v, l') => ((v : Int), 0, l')) else (0, e, l)
def rUpto (m e : Int) (l : List Nat) : Int × Int × List Nat :=
  let e2 := if m < (rNum e l).1 then rFail 5 (rNum e l).2.1 else (rNum e l).2.1
  (if e2 = 0 then (rNum e l).1 else 0, e2, (rNum e l).2.2)
def rRaw (k e : Int) (l : List Nat) : List Nat × Int × List Nat :=
  if e = 0 then (if k < 0 ∨ (l.length : Int) < k then ([], 2, l) else (l.take k.toNat, 0, l.drop k.toNat)) else ([], e, l)
def rText (m e : Int) (l : List Nat) : List Nat × Int × List Nat := rRaw (rUpto m e l).1 (rUpto m e l).2.1 (rUpto m e l).2.2
def sum32 (b : List Nat) : List Nat := if b.length = 32 then b else zsum
def rSum (e : Int) (l : List Nat) : List Nat × Int × List Nat := (sum32 (rRaw 32 e l).1, (rRaw 32 e l).2)
def rDone (e : Int) (l : List Nat) : Int := if e = 0 ∧ 0 < l.length then 3 else e
theorem length_sum32 (b : List Nat) : (sum32 b).length = 32 := by unfold sum32; split <;> simp_all [zsum]
theorem rNum_no {e : Int} (h : ¬ e = 0) (l : List Nat) : rNum e l = (0, e, l) := by unfold rNum; rw [if_neg h]
theorem rNum_inl {l : List Nat} {x : Int} (h : rn 9 0 0 l = .inl x) : rNum 0 l = (0, x, l) := by unfold rNum; rw [if_pos rfl, h]
theorem rNum_inr {l l' : List Nat} {v : Nat} (h : rn 9 0 0 l = .inr (v, l')) : rNum 0 l = ((v : Int), 0, l') := by unfold rNum; rw [if_pos rfl, h]
theorem drop_cons {l : List Nat} {g : Nat} (h : g < l.length) : l.drop g = l.getD g 0 :: l.drop (g + 1) := by
  rw [List.drop_eq_getElem_cons h, List.getD_eq_getElem?_getD, List.getElem?_eq_getElem h]; rfl
theorem and127 (c : Nat) : c &&& 127 = c % 128 := Nat.and_two_pow_sub_one_eq_mod c 7
theorem pow128 {g : Nat} (h : g ≤ 8) : 128 ^ g ≤ 72057594037927936 := by
  have : 128 ^ g ≤ 128 ^ 8 := Nat.pow_le_pow_right (by decide) h
  exact Nat.le_trans this (by decide)
theorem mul128 {c g : Nat} (h : g ≤ 8) : c % 128 * 128 ^ g ≤ 9151314442816847872 := by
  have h1 := pow128 h
  have h2 : c % 128 ≤ 127 := by omega
  exact Nat.le_trans (Nat.mul_le_mul h2 h1) (by decide)
theorem or_step {v c g : Nat} (hv : v < 128 ^ g) (hg : g ≤ 8) : v ||| ((((c &&& 127) % 18446744073709551616) <<< (7 * g)) % 18446744073709551616) = v + c % 128 * 128 ^ g := by
  have h1 := mul128 (c := c) hg
  have e1 : 2 ^ (7 * g) = 128 ^ g := by rw [Nat.pow_mul]
  rw [and127, Nat.mod_eq_of_lt (a := c % 128) (by omega), Nat.shiftLeft_eq, e1, Nat.mod_eq_of_lt (by omega), Nat.or_comm]
  have := Nat.shiftLeft_add_eq_or_of_lt (b := v) (i := 7 * g) (by rw [e1]; exact hv) (c % 128)
  rw [Nat.shiftLeft_eq, e1] at this
  omega
theorem next128 {v c g : Nat} (hv : v < 128 ^ g) : v + c % 128 * 128 ^ g < 128 ^ (g + 1) := by
  have h2 : c % 128 ≤ 127 := by omega
  have := Nat.mul_le_mul_right (128 ^ g) h2
  rw [Nat.pow_succ]; omega
structure EyeTo (A : Option Addr) (c : Nat) (l : List Nat) (A1 : Option Addr) (c1 : Nat) (l1 : List Nat) : Prop where
  suf : l1 <:+ l
  cap : l1.length ≤ c1
  rd : ∀ w, Rd w 1 A l.length (bv l) → Rd w 1 A1 l1.length (bv l1)
  off : ∀ bs, Off A l.length bs → Off A1 l1.length bs
theorem EyeTo.refl {A : Option Addr} {c : Nat} {l : List Nat} (h : l.length ≤ c) : EyeTo A c l A c l := ⟨List.suffix_refl _, h, fun _ h => h, fun _ h => h⟩
theorem EyeTo.trans {A A1 A2 : Option Addr} {c c1 c2 : Nat} {l l1 l2 : List Nat} (h : EyeTo A c l A1 c1 l1) (h' : EyeTo A1 c1 l1 A2 c2 l2) : EyeTo A c l A2 c2 l2 :=
  ⟨h'.suf.trans h.suf, h'.cap, fun w R => h'.rd w (h.rd w R), fun b o => h'.off b (h.off b o)⟩
theorem EyeTo.drop {A : Option Addr} {c m : Nat} {l : List Nat} (hm : m ≤ l.length) (hc : l.length ≤ c) : EyeTo A c l (if c = m then A else A.map (·.add (m * 1))) (c - m) (l.drop m) :=
  ⟨List.drop_suffix _ _, by rw [List.length_drop]; omega, fun w R => by
    have h := R.drop hm hc
    rw [bv_drop, Nat.mul_one] at h
    rw [List.length_drop]
    simpa [Nat.mul_one] using h, fun b o => o.sl (by rw [List.length_drop]; omega)⟩
theorem EyeTo.by_ {A A1 : Option Addr} {c c1 : Nat} {l l1 : List Nat} (h : EyeTo A c l A1 c1 l1) (hB : Bytes l) : Bytes l1 := fun x hx => hB x (h.suf.subset hx)
theorem EyeTo.len {A A1 : Option Addr} {c c1 m : Nat} {l l1 : List Nat} (h : EyeTo A c l A1 c1 l1) (hl : l.length ≤ m) : l1.length ≤ m := Nat.le_trans h.suf.length_le hl
theorem bytes_getD {l : List Nat} (h : Bytes l) (i : Nat) : l.getD i 0 < 256 := by
  rw [List.getD_eq_getElem?_getD]
  rcases Nat.lt_or_ge i l.length with h1 | h1
  · rw [List.getElem?_eq_getElem h1]; exact h _ (List.getElem_mem h1)
  · rw [List.getElem?_eq_none h1]; decide
theorem rRaw_len {k e e1 : Int} {l b l1 : List Nat} (h : rRaw k e l = (b, e1, l1)) : b = [] ∨ b.length = k.toNat := by
  unfold rRaw at h
  split at h
  · split at h
    · simp only [Prod.mk.injEq] at h; exact .inl h.1.symm
    · rename_i h1
      simp only [Prod.mk.injEq] at h
      right
      rw [← h.1, List.length_take]; omega
  · simp only [Prod.mk.injEq] at h; exact .inl h.1.symm
theorem copy_sum32 {b : List Nat} (h : b = [] ∨ b.length = (32 : Int).toNat) : ((bv b).take 32 ++ (bv zsum).toArray.toList.drop (min b.length 32)).toArray = (bv (sum32 b)).toArray := by
  have e32 : (32 : Int).toNat = 32 := rfl
  rw [e32] at h
  unfold sum32
  rcases h with rfl | h
  · rw [if_neg (by decide)]; simp [bv]
  · rw [if_pos h]
    have h1 : (bv b).take 32 = bv b := List.take_of_length_le (by simp [h])
    have h2 : (bv zsum).drop (min b.length 32) = [] := List.drop_of_length_le (by simp [zsum, h])
    show ((bv b).take 32 ++ (bv zsum).drop (min b.length 32)).toArray = _
    rw [h1, h2, List.append_nil]
section
variable {w0 w : World} {ex : List Nat} {ks : List (Option Nat)} {ps : List (Option Obj → Prop)}
/-- an entry's cells, told in other words -/
theorem St.set1Ex (S : St w0 w ex ks ps) (i : Nat) {cs cs' : Array Value} {t : TypeId} (hp : ps[i]? = some (Ex cs t)) (h : cs = cs') : St w0 w ex ks (ps.set i (Ex cs' t)) := by
  subst h
  exact S.mono i _ _ hp fun _ h => h
end
theorem rUpto_of {m e a e1 e2 : Int} {l l1 : List Nat} (h : rNum e l = (a, e1, l1)) (h2 : e2 = if m < a then rFail 5 e1 else e1) : rUpto m e l = (if e2 = 0 then a else 0, e2, l1) := by
  unfold rUpto; rw [h, h2]
theorem rText_of {m e a e1 e2 : Int} {l l1 b l2 : List Nat} (h : rUpto m e l = (a, e1, l1)) (h2 : rRaw a e1 l1 = (b, e2, l2)) : rText m e l = (b, e2, l2) := by
  unfold rText; rw [h]; exact h2
theorem rSum_of {e e1 : Int} {l b l1 : List Nat} (h : rRaw 32 e l = (b, e1, l1)) : rSum e l = (sum32 b, e1, l1) := by
  unfold rSum; rw [h]
end Go.Proofs.Ytdhfiamgmokfbaa.E

/- What reads bytes. It proves no statement by itself. -/
set_option linter.unusedSimpArgs false
set_option linter.unusedVariables false
set_option maxRecDepth 100000
set_option maxHeartbeats 1000000
namespace Go.Proofs.Ytdhfiamgmokfbaa
open Go Go.RowKit E
attribute [local irreducible] wpList seqH treeH
/-- an eye's block: what is left, the first error -/
abbrev eyeE (A : Option Addr) (c : Nat) (e : Int) (l : List Nat) : Option Obj → Prop := Ex (cat [[.slice A l.length c], [.int .i64 e]]).toArray 164
theorem eye_look (w0 : World) (A : Option Addr) (c : Nat) (l : List Nat) :
    Ret Try.prog 103 [.slice A l.length c] w0 fun v w' => ∃ hb, v = .pointer (some ⟨hb, 0, none⟩) ∧ St w0 w' [] [some hb] [eyeE A c 0 l] := by
  refine enter Try.func103 rfl Try.ntmps103 (Nat.le_of_ble_eq_true rfl) ?_
  have S := St.init w0
  refine s_seq (s_plain ?_)
  refine p_val (e_assign (v := .pointer _) rfl) rfl ?_
  refine p_nil (x_then (s_seq (s_plain ?_)))
  refine p_val (e_move (v := .slice _ _ _) rfl) rfl ?_
  refine p_val (e_buildS bt164 (Eq.trans (fill_cat (v := .slice _ _ _) (l' := [[_]]) 0 1 rfl (rfl) (by first | with_reducible assumption | (simp [cat]; done) | (simp [cat]; omega) | rfl) (by first | with_reducible assumption | (simp [cat]; done) | (simp [cat]; omega) | rfl) (by first | with_reducible assumption | (simp [cat]; done) | (simp [cat]; omega) | rfl)) rfl)) rfl ?_
  refine p_does (d_boxA S rfl) rfl ?_
  rintro _ w ⟨b5, rfl, S⟩
  refine p_val (e_assign (v := .pointer _) rfl) rfl ?_
  refine p_nil (x_then (s_ret ?_))
  exact post1 (v := .pointer _) Try.results103 rfl (⟨_, rfl, S⟩)
theorem eye_fail (w0 : World) (hb : Nat) (A : Option Addr) (c : Nat) (e x : Int) (l : List Nat) (S0 : St w0 w0 (exOf [some hb]) [some hb] [eyeE A c e l]) :
    Ret Try.prog 112 [.pointer (some ⟨hb, 0, none⟩), .int .i64 x] w0 fun v w' => v = .tuple #[] ∧ St w0 w' (exOf [some hb]) [some hb] [eyeE A c (rFail x e) l] := by
  refine enter Try.func112 rfl Try.ntmps112 (Nat.le_of_ble_eq_true rfl) ?_
  have S := S0
  refine s_seq ?_
  refine s_cutK (ks := [some hb]) (ps := [Ex _ _]) [(0, .pointer _), (1, .int _ _)] ⟨rfl, rfl, trivial⟩ S (fun keep ks ps f' w' => ∃ u bb, f' = upds u ((12, .bool bb) :: keep) ∧ (bb = true ↔ e = 0) ∧ St w0 w' (exOf [some hb]) ks ps) ?_ ?_
  · refine s_plain ?_
    refine p_val (e_move (v := .pointer _) rfl) rfl ?_
    refine p_valb (e_neqP rfl rfl Try.underlying152) rfl (fun hg5 => ?_) (fun hg5 => ?_)
    · refine p_val (e_move (v := .bool _) rfl) rfl ?_
      refine pg_val rfl rfl rfl rfl rfl (e_move (v := .pointer _) rfl) ?_
      refine pg_val rfl rfl rfl rfl rfl (e_nil rfl rfl) ?_
      refine pg_val rfl rfl rfl rfl rfl (e_field rfl Try.underlying164 rfl sz34 (by decide)) ?_
      refine pg_val rfl rfl rfl rfl rfl (e_loadF1 (i := 1) (off := 1) rfl ag34 S (j := 0) rfl rfl rfl (by first | with_reducible assumption | (simp [cat]; done) | (simp [cat]; omega) | rfl)) ?_
      refine pg_val rfl rfl rfl rfl rfl (e_eql rfl rfl) ?_
      refine p_val (e_pick_t rfl rfl) rfl ?_
      exact p_nil (x_then ⟨_, rfl, _, _, upds_eq ⟨rfl, rfl, rfl, trivial⟩, by first | (simp only [decide_eq_true_eq, eq_self, true_iff, iff_true, iff_false, Bool.false_eq_true, false_iff, ge_iff_le, gt_iff_lt, true_and, and_true, false_and, and_false, true_or, or_true, false_or, or_false, not_true_eq_false, not_false_eq_true]; omega) | simp | omega | simp_all, S⟩)
    · exact False.elim (by simp at hg5)
  · rintro f w ⟨u, b12, rfl, hb12, S⟩
    refine x_then ?_
    refine s_condb rfl (fun hc12 => ?_) (fun hc12 => ?_)
    · have hp12 : e = 0 := hb12.1 hc12
      refine s_plain ?_
      refine p_val (e_move (v := .pointer _) rfl) rfl ?_
      refine p_val (e_move (v := .int _ _) rfl) rfl ?_
      refine p_val (e_nil rfl rfl) rfl ?_
      refine p_val (e_field rfl Try.underlying164 rfl sz34 (by decide)) rfl ?_
      refine p_does (d_storeF1 (v := .int _ _) (off := 1) S 0 1 rfl rfl rfl sz34 rfl rfl rfl (by first | with_reducible assumption | (simp [cat]; done) | (simp [cat]; omega) | rfl)) rfl ?_
      intro _ w S
      refine p_nil (post_end ?_)
      exact post0 Try.results112 (⟨rfl, by unfold rFail; rw [if_pos hp12]; exact S⟩)
    · have hp12 : ¬ e = 0 := fun h => by rw [hb12.2 h] at hc12; cases hc12
      refine s_skip (post_end ?_)
      exact post0 Try.results112 (⟨rfl, by unfold rFail; rw [if_neg hp12]; exact S⟩)
theorem eye_err (w0 : World) (hb : Nat) (A : Option Addr) (c : Nat) (e : Int) (l : List Nat) (S0 : St w0 w0 (exOf [some hb]) [some hb] [eyeE A c e l]) :
    Ret Try.prog 113 [.pointer (some ⟨hb, 0, none⟩)] w0 fun v w' => v = .int .i64 e ∧ w0 = w' := by
  refine enter Try.func113 rfl Try.ntmps113 (Nat.le_of_ble_eq_true rfl) ?_
  have S := S0
  refine s_seq (s_plain ?_)
  refine p_val (e_assign (v := .int _ _) rfl) rfl ?_
  refine p_nil (x_then (s_seq (s_seq (s_plain ?_))))
  refine p_val (e_move (v := .pointer _) rfl) rfl ?_
  refine p_val (e_eqlP rfl rfl Try.underlying152) rfl ?_
  refine p_nil (x_then ?_)
  refine s_condb rfl (fun hc4 => ?_) (fun hc4 => ?_)
  · exact False.elim (by simp at hc4)
  · refine s_skip (x_then (s_seq (s_plain ?_)))
    refine p_val (e_move (v := .pointer _) rfl) rfl ?_
    refine p_val (e_nil rfl rfl) rfl ?_
    refine p_val (e_field rfl Try.underlying164 rfl sz34 (by decide)) rfl ?_
    refine p_val (e_loadF1 (i := 1) (off := 1) rfl ag34 S (j := 0) rfl rfl rfl (by first | with_reducible assumption | (simp [cat]; done) | (simp [cat]; omega) | rfl)) rfl ?_
    refine p_val (e_assign (v := .int _ _) rfl) rfl ?_
    refine p_nil (x_then (s_ret ?_))
    exact post1 (v := .int _ _) Try.results113 rfl (⟨rfl, rfl⟩)
theorem eye_num (w0 : World) (hb : Nat) (A : Option Addr) (c : Nat) (e : Int) (l : List Nat) (S0 : St w0 w0 (exOf [some hb]) [some hb] [eyeE A c e l]) (R : Rd w0 1 A l.length (bv l)) (oR : Off A l.length (exOf [some hb])) (bR : Bytes l) (cR : l.length ≤ c) (nR : l.length ≤ 1099511000000) :
    Ret Try.prog 111 [.pointer (some ⟨hb, 0, none⟩)] w0 fun v w' => ∃ a e1 l1 A1 c1, rNum e l = (a, e1, l1) ∧ v = .int .i64 a ∧ EyeTo A c l A1 c1 l1 ∧ St w0 w' (exOf [some hb]) [some hb] [eyeE A1 c1 e1 l1] := by
  refine enter Try.func111 rfl Try.ntmps111 (Nat.le_of_ble_eq_true rfl) ?_
  have S := S0
  refine s_seq (s_plain ?_)
  refine p_val (e_assign (v := .int _ _) rfl) rfl ?_
  refine p_nil (x_then (s_seq (s_seq (s_plain ?_))))
  refine p_val (e_move (v := .pointer _) rfl) rfl ?_
  refine p_does (d_call Try.func113 nm113 rfl rfl (eye_err _ _ _ _ _ _ (S.hr [0] rfl))) rfl ?_
  rintro _ w ⟨rfl, rfl⟩
  refine p_val (e_neq rfl rfl) rfl ?_
  refine p_nil (x_then ?_)
  refine s_cond rfl (fun hc8 => ?_) (fun hc8 => ?_)
  · refine s_seq (s_plain ?_)
    refine p_val (e_assign (v := .int _ _) rfl) rfl ?_
    refine p_nil (x_then (s_ret (x_then_ret ?_)))
    exact post1 (v := .int _ _) Try.results111 rfl (⟨_, _, _, _, _, rNum_no hc8 l, rfl, EyeTo.refl cR, S⟩)
  · obtain rfl : e = 0 := Classical.not_not.1 hc8
    refine s_skip (x_then (s_seq (s_plain ?_)))
    refine p_val (e_assign (v := .int _ _) rfl) rfl ?_
    refine p_nil (x_then (s_seq (s_seq (s_plain ?_))))
    refine p_val (e_move (v := .int _ _) rfl) rfl ?_
    refine p_nil (x_then (s_block ?_))
    refine s_loopK (α := Nat) (ks := [some hb]) (ps := [Ex _ _]) [(0, .pointer _)] ⟨rfl, trivial⟩ S (fun keep ks ps g f' w' => ∃ u v, f' = upds u ((3, .int .u64 ((v : Nat) : Int)) :: (9, .int .i64 (g : Int)) :: keep) ∧ (g ≤ 9) ∧ (g ≤ l.length) ∧ (v < 128 ^ g) ∧ (rn 9 0 0 l = rn (9 - g) g v (l.drop g)) ∧ St w0 w' (exOf [some hb]) [some hb] [eyeE A c 0 l]) (fun g => 9 - g) (0) (⟨_, 0, upds_eq ⟨rfl, rfl, rfl, trivial⟩, by first | omega | rfl | with_reducible assumption | (simp; done) | (simp; omega), by first | omega | rfl | with_reducible assumption | (simp; done) | (simp; omega), by decide, by rw [List.drop_zero], S⟩) ?_
    rintro g f w ⟨u, v, rfl, hg, hgl, hv, hr, S⟩
    refine s_seq (s_plain ?_)
    refine p_val (e_lss rfl rfl) rfl ?_
    refine p_nil (x_then (s_seq ?_))
    refine s_cond rfl (fun hc10 => ?_) (fun hc10 => ?_)
    · refine s_skip (x_then (s_seq (s_block (s_seq (s_plain ?_)))))
      refine p_val (e_move (v := .int _ _) rfl) rfl ?_
      refine p_val (e_assign (v := .int _ _) rfl) rfl ?_
      refine p_nil (x_then (s_seq (s_seq (s_plain ?_))))
      refine p_val (e_move (v := .int _ _) rfl) rfl ?_
      refine p_val (e_move (v := .pointer _) rfl) rfl ?_
      refine p_val (e_nil rfl rfl) rfl ?_
      refine p_val (e_field rfl Try.underlying164 rfl sz33 (by decide)) rfl ?_
      refine p_val (e_loadF1 (i := 0) (off := 0) rfl ag33 S (j := 0) rfl rfl rfl (by first | with_reducible assumption | (simp [cat]; done) | (simp [cat]; omega) | rfl)) rfl ?_
      refine p_val (e_len rfl Try.underlying33) rfl ?_
      refine p_val (e_geq rfl rfl) rfl ?_
      refine p_nil (x_then ?_)
      refine s_cond rfl (fun hc18 => ?_) (fun hc18 => ?_)
      · have e9 : rn 9 0 0 l = .inl 2 := by
          rw [hr, List.drop_of_length_le (by omega), show 9 - g = (8 - g) + 1 by omega]
          rfl
        refine s_seq (s_plain ?_)
        refine p_val (e_move (v := .pointer _) rfl) rfl ?_
        refine p_does (d_call Try.func112 nm112 rfl rfl (eye_fail _ _ _ _ _ _ _ (S.hr [0] rfl))) rfl ?_
        rintro _ w ⟨rfl, T⟩
        have S := (S.call [0] T rfl).pk [0] rfl
        refine p_nil (x_then (s_seq (s_plain ?_)))
        refine p_val (e_assign (v := .int _ _) rfl) rfl ?_
        refine p_nil (x_then (s_ret (x_then_ret (x_in_ret (x_then_ret (x_then_ret (x_in_ret (x_then_ret ?_))))))))
        exact post1 (v := .int _ _) Try.results111 rfl (⟨_, _, _, _, _, rNum_inl e9, rfl, EyeTo.refl cR, S⟩)
      · refine s_skip (x_then (s_seq (s_plain ?_)))
        have hcb := bytes_getD bR (g : Int).toNat
        have hdc : l.drop g = l.getD (g : Int).toNat 0 :: l.drop (g + 1) := by rw [Int.toNat_natCast]; exact drop_cons (by omega)
        have hp8 := pow128 (g := g) (by omega)
        have hm8 := mul128 (c := l.getD (g : Int).toNat 0) (g := g) (by omega)
        refine p_val (e_move (v := .pointer _) rfl) rfl ?_
        refine p_val (e_nil rfl rfl) rfl ?_
        refine p_val (e_field rfl Try.underlying164 rfl sz33 (by decide)) rfl ?_
        refine p_val (e_loadF1 (i := 0) (off := 0) rfl ag33 S (j := 0) rfl rfl rfl (by first | with_reducible assumption | (simp [cat]; done) | (simp [cat]; omega) | rfl)) rfl ?_
        refine p_val (e_move (v := .int _ _) rfl) rfl ?_
        refine p_val (e_ixR (S.rdOff R oR) (by decide) rfl rfl Try.underlying33 sz5 (by omega)) rfl ?_
        refine p_val (e_loadRb rfl ag5 (S.rdOff R oR) (by omega)) rfl ?_
        refine p_val (e_assign (v := .int _ _) rfl) rfl ?_
        refine p_nil (x_then (s_seq (s_plain ?_)))
        refine p_val (e_move (v := .int _ _) rfl) rfl ?_
        refine p_val (e_move (v := .int _ _) rfl) rfl ?_
        refine p_val (e_and8 (n := 127) rfl rfl (by omega) (by omega)) rfl ?_
        refine p_val (e_convU64 rfl Try.underlying5 (by simp) Try.underlying150) rfl ?_
        refine p_val (e_move (v := .int _ _) rfl) rfl ?_
        refine p_val (e_mul64 rfl rfl (by omega)) rfl ?_
        refine p_val (e_shlU64 (7 * g) rfl rfl (by omega)) rfl ?_
        refine p_val (e_or64 rfl rfl (by omega) (Nat.mod_lt _ (by decide))) rfl ?_
        refine p_val (e_assign (v := .int _ _) rfl) rfl ?_
        refine p_nil ?_
        rw [or_step hv (by omega)]
        refine x_then (s_seq (s_plain ?_))
        refine p_val (e_move (v := .int _ _) rfl) rfl ?_
        refine p_val (e_lss rfl rfl) rfl ?_
        refine p_nil (x_then ?_)
        refine s_cond rfl (fun hc37 => ?_) (fun hc37 => ?_)
        · refine s_seq (s_seq ?_)
          refine s_cutK (ks := [some hb]) (ps := [Ex _ _]) [(0, .pointer _), (3, .int _ _), (4, .int _ _)] ⟨rfl, rfl, rfl, trivial⟩ S (fun keep ks ps f' w' => ∃ u bb, f' = upds u ((43, .bool bb) :: keep) ∧ (bb = true ↔ (l.getD (g : Int).toNat 0 = 0 ∧ 0 < g)) ∧ St w0 w' (exOf [some hb]) ks ps) ?_ ?_
          · refine s_plain ?_
            refine p_val (e_move (v := .int _ _) rfl) rfl ?_
            refine p_valB (e_eql rfl rfl) rfl (fun hg39 => ?_) (fun hg39 => ?_)
            · refine p_val (e_move (v := .bool _) rfl) rfl ?_
              refine pg_val rfl rfl rfl rfl rfl (e_move (v := .int _ _) rfl) ?_
              refine pg_val rfl rfl rfl rfl rfl (e_gtr rfl rfl) ?_
              refine p_val (e_pick_t rfl rfl) rfl ?_
              exact p_nil (x_then ⟨_, rfl, _, _, upds_eq ⟨rfl, rfl, rfl, rfl, trivial⟩, by first | (simp only [decide_eq_true_eq, eq_self, true_iff, iff_true, iff_false, Bool.false_eq_true, false_iff, ge_iff_le, gt_iff_lt, true_and, and_true, false_and, and_false, true_or, or_true, false_or, or_false, not_true_eq_false, not_false_eq_true]; omega) | simp | omega | simp_all, S⟩)
            · refine p_val (e_move (v := .bool _) rfl) rfl ?_
              refine p_no rfl rfl rfl rfl rfl ?_
              refine p_no rfl rfl rfl rfl rfl ?_
              refine p_val (e_pick_f rfl rfl) rfl ?_
              exact p_nil (x_then ⟨_, rfl, _, _, upds_eq ⟨rfl, rfl, rfl, rfl, trivial⟩, by first | (simp only [decide_eq_true_eq, eq_self, true_iff, iff_true, iff_false, Bool.false_eq_true, false_iff, ge_iff_le, gt_iff_lt, true_and, and_true, false_and, and_false, true_or, or_true, false_or, or_false, not_true_eq_false, not_false_eq_true]; omega) | simp | omega | simp_all, S⟩)
          · rintro f w ⟨u, b43, rfl, hb43, S⟩
            refine x_then ?_
            refine s_condb rfl (fun hc43 => ?_) (fun hc43 => ?_)
            · have hp43 : (l.getD (g : Int).toNat 0 = 0 ∧ 0 < g) := hb43.1 hc43
              have e9 : rn 9 0 0 l = .inl 4 := by
                rw [hr, hdc, show 9 - g = (8 - g) + 1 by omega]
                show (if _ then (if _ then _ else _) else _) = _
                rw [if_pos (by omega), if_pos hp43]
              refine s_seq (s_plain ?_)
              refine p_val (e_move (v := .pointer _) rfl) rfl ?_
              refine p_does (d_call Try.func112 nm112 rfl rfl (eye_fail _ _ _ _ _ _ _ (S.hr [0] rfl))) rfl ?_
              rintro _ w ⟨rfl, T⟩
              have S := (S.call [0] T rfl).pk [0] rfl
              refine p_nil (x_then (s_seq (s_plain ?_)))
              refine p_val (e_assign (v := .int _ _) rfl) rfl ?_
              refine p_nil (x_then (s_ret (x_then_ret (x_in_ret (x_then_ret (x_then_ret (x_in_ret (x_then_ret ?_))))))))
              exact post1 (v := .int _ _) Try.results111 rfl (⟨_, _, _, _, _, rNum_inl e9, rfl, EyeTo.refl cR, S⟩)
            · have hp43 : ¬ (l.getD (g : Int).toNat 0 = 0 ∧ 0 < g) := fun h => by rw [hb43.2 h] at hc43; cases hc43
              have e9 : rn 9 0 0 l = .inr (v + l.getD (g : Int).toNat 0 % 128 * 128 ^ g, l.drop (g + 1)) := by
                rw [hr, hdc, show 9 - g = (8 - g) + 1 by omega]
                show (if _ then (if _ then _ else _) else _) = _
                rw [if_pos (by omega), if_neg hp43]
              refine s_skip (x_then (s_seq (s_plain ?_)))
              refine p_val (e_move (v := .pointer _) rfl) rfl ?_
              refine p_val (e_move (v := .pointer _) rfl) rfl ?_
              refine p_val (e_nil rfl rfl) rfl ?_
              refine p_val (e_field rfl Try.underlying164 rfl sz33 (by decide)) rfl ?_
              refine p_val (e_loadF1 (i := 0) (off := 0) rfl ag33 S (j := 0) rfl rfl rfl (by first | with_reducible assumption | (simp [cat]; done) | (simp [cat]; omega) | rfl)) rfl ?_
              refine p_val (e_move (v := .int _ _) rfl) rfl ?_
              refine p_val (e_add64 rfl rfl (by omega)) rfl ?_
              refine p_val (e_sl_l (g + 1) rfl rfl (rfl) (by omega) Try.underlying33 sz5) rfl ?_
              refine p_val (e_nil rfl rfl) rfl ?_
              refine p_val (e_field rfl Try.underlying164 rfl sz33 (by decide)) rfl ?_
              refine p_does (d_storeF1 (v := .slice _ _ _) (off := 0) S 0 0 rfl rfl rfl sz33 rfl rfl rfl (by first | with_reducible assumption | (simp [cat]; done) | (simp [cat]; omega) | rfl)) rfl ?_
              intro _ w S
              refine p_nil (x_then (s_seq (s_plain ?_)))
              refine p_val (e_move (v := .int _ _) rfl) rfl ?_
              refine p_val (e_conv_in rfl Try.underlying150 (by simp) Try.underlying3 (IntWalk.i64_in _ (by omega))) rfl ?_
              refine p_val (e_assign (v := .int _ _) rfl) rfl ?_
              refine p_nil (x_then (s_ret (x_in_ret (x_then_ret (x_then_ret (x_in_ret (x_then_ret ?_)))))))
              exact post1 (v := .int _ _) Try.results111 rfl (⟨_, _, _, _, _, rNum_inr e9, rfl, EyeTo.drop (m := g + 1) (by omega) cR, by unfold eyeE; rw [List.length_drop]; exact S⟩)
        · refine s_skip (x_in (x_then (s_plain ?_)))
          refine p_val (e_add64 rfl rfl (by omega)) rfl ?_
          refine p_val (e_move (v := .int _ _) rfl) rfl ?_
          refine p_nil ?_
          refine x_round (g + 1) _ rfl ⟨_, _, upds_eq ⟨rfl, rfl, rfl, trivial⟩, by first | omega | rfl | with_reducible assumption | (simp; done) | (simp; omega), by first | omega | rfl | with_reducible assumption | (simp; done) | (simp; omega), next128 hv, by rw [hr, hdc, show 9 - g = (8 - g) + 1 by omega, show 9 - (g + 1) = 8 - g by omega]; show (if _ then _ else _) = _; rw [if_neg (by omega)], S⟩ (by omega)
    · refine s_exit (x_then_exit (x_then_exit (x_in_same (x_then (s_seq (s_plain ?_))))))
      refine p_val (e_move (v := .pointer _) rfl) rfl ?_
      refine p_does (d_call Try.func112 nm112 rfl rfl (eye_fail _ _ _ _ _ _ _ (S.hr [0] rfl))) rfl ?_
      rintro _ w ⟨rfl, T⟩
      have S := (S.call [0] T rfl).pk [0] rfl
      refine p_nil (x_then (s_seq (s_plain ?_)))
      refine p_val (e_assign (v := .int _ _) rfl) rfl ?_
      refine p_nil (x_then (s_ret ?_))
      exact post1 (v := .int _ _) Try.results111 rfl (⟨_, _, _, _, _, rNum_inl (x := 5) (by rw [hr, show 9 - g = 0 by omega]; rfl), rfl, EyeTo.refl cR, S⟩)
theorem eye_upto (w0 : World) (hb : Nat) (A : Option Addr) (c : Nat) (e m : Int) (l : List Nat) (S0 : St w0 w0 (exOf [some hb]) [some hb] [eyeE A c e l]) (R : Rd w0 1 A l.length (bv l)) (oR : Off A l.length (exOf [some hb])) (bR : Bytes l) (cR : l.length ≤ c) (nR : l.length ≤ 1099511000000) :
    Ret Try.prog 104 [.pointer (some ⟨hb, 0, none⟩), .int .i64 m] w0 fun v w' => ∃ a e1 l1 A1 c1, rUpto m e l = (a, e1, l1) ∧ v = .int .i64 a ∧ EyeTo A c l A1 c1 l1 ∧ St w0 w' (exOf [some hb]) [some hb] [eyeE A1 c1 e1 l1] := by
  refine enter Try.func104 rfl Try.ntmps104 (Nat.le_of_ble_eq_true rfl) ?_
  have S := S0
  refine s_seq (s_plain ?_)
  refine p_val (e_assign (v := .int _ _) rfl) rfl ?_
  refine p_nil (x_then (s_seq (s_plain ?_)))
  refine p_val (e_move (v := .pointer _) rfl) rfl ?_
  refine p_does (d_call Try.func111 nm111 rfl rfl (eye_num _ _ _ _ _ _ (S.hr [0] rfl) (S.rdOff R oR) (S.offOld [0] R (by decide) oR rfl) bR cR nR)) rfl ?_
  rintro _ w ⟨a7, e7, l7, A7, c7, q7, rfl, t7, T⟩
  have S := (S.call [0] T rfl).pk [0] rfl
  have R7 := t7.rd _ R
  have bR7 := t7.by_ bR
  have cR7 := t7.cap
  have nR7 := t7.len nR
  have oR7 := t7.off _ oR
  refine p_val (e_assign (v := .int _ _) rfl) rfl ?_
  refine p_nil (x_then (s_seq ?_))
  refine s_cutK (ks := [some hb]) (ps := [Ex _ _]) [(0, .pointer _), (5, .int _ _)] ⟨rfl, rfl, trivial⟩ S (fun keep ks ps f' w' => ∃ u e2, f' = upds u (keep) ∧ (e2 = if m < a7 then rFail 5 e7 else e7) ∧ St w0 w' (exOf [some hb]) [some hb] [eyeE A7 c7 e2 l7]) ?_ ?_
  · refine s_seq (s_plain ?_)
    refine p_val (e_move (v := .int _ _) rfl) rfl ?_
    refine p_val (e_move (v := .int _ _) rfl) rfl ?_
    refine p_val (e_gtr rfl rfl) rfl ?_
    refine p_nil (x_then ?_)
    refine s_cond rfl (fun hc10 => ?_) (fun hc10 => ?_)
    · refine s_plain ?_
      refine p_val (e_move (v := .pointer _) rfl) rfl ?_
      refine p_does (d_call Try.func112 nm112 rfl rfl (eye_fail _ _ _ _ _ _ _ (S.hr [0] rfl))) rfl ?_
      rintro _ w ⟨rfl, T⟩
      have S := (S.call [0] T rfl).pk [0] rfl
      refine p_nil ?_
      exact x_then ⟨_, rfl, _, _, upds_eq ⟨rfl, rfl, trivial⟩, by rw [if_pos hc10], S⟩
    · refine s_skip ?_
      exact x_then ⟨_, rfl, _, _, upds_eq ⟨rfl, rfl, trivial⟩, by rw [if_neg hc10], S⟩
  · rintro f w ⟨u, e2, rfl, he2, S⟩
    refine x_then (s_seq (s_seq (s_plain ?_)))
    refine p_val (e_move (v := .pointer _) rfl) rfl ?_
    refine p_does (d_call Try.func113 nm113 rfl rfl (eye_err _ _ _ _ _ _ (S.hr [0] rfl))) rfl ?_
    rintro _ w ⟨rfl, rfl⟩
    refine p_val (e_neq rfl rfl) rfl ?_
    refine p_nil (x_then ?_)
    refine s_cond rfl (fun hc15 => ?_) (fun hc15 => ?_)
    · refine s_seq (s_plain ?_)
      refine p_val (e_assign (v := .int _ _) rfl) rfl ?_
      refine p_nil (x_then (s_ret (x_then_ret ?_)))
      exact post1 (v := .int _ _) Try.results104 rfl (⟨_, _, _, _, _, rUpto_of q7 he2, by rw [if_neg hc15], t7, S⟩)
    · refine s_skip (x_then (s_seq (s_plain ?_)))
      refine p_val (e_move (v := .int _ _) rfl) rfl ?_
      refine p_val (e_assign (v := .int _ _) rfl) rfl ?_
      refine p_nil (x_then (s_ret ?_))
      exact post1 (v := .int _ _) Try.results104 rfl (⟨_, _, _, _, _, rUpto_of q7 he2, by rw [if_pos (Classical.not_not.1 hc15)], t7, S⟩)
theorem eye_raw (w0 : World) (hb : Nat) (A : Option Addr) (c : Nat) (e m : Int) (l : List Nat) (S0 : St w0 w0 (exOf [some hb]) [some hb] [eyeE A c e l]) (R : Rd w0 1 A l.length (bv l)) (oR : Off A l.length (exOf [some hb])) (cR : l.length ≤ c) (nR : l.length ≤ 1099511000000) :
    Ret Try.prog 114 [.pointer (some ⟨hb, 0, none⟩), .int .i64 m] w0 fun v w' => ∃ k2 c2 s e1 l1 A1 c1, rRaw m e l = (s, e1, l1) ∧ v = .slice (at_ k2) (List.length s) c2 ∧ EyeTo A c l A1 c1 l1 ∧ St w0 w' (exOf [some hb]) [k2, some hb] [Rw 5 1 s.length c2 (bv s), eyeE A1 c1 e1 l1] := by
  refine enter Try.func114 rfl Try.ntmps114 (Nat.le_of_ble_eq_true rfl) ?_
  have S := S0
  refine s_seq (s_plain ?_)
  refine p_val (e_assign (v := .slice _ _ _) rfl) rfl ?_
  refine p_nil (x_then (s_seq (s_seq (s_plain ?_))))
  refine p_val (e_move (v := .pointer _) rfl) rfl ?_
  refine p_does (d_call Try.func113 nm113 rfl rfl (eye_err _ _ _ _ _ _ (S.hr [0] rfl))) rfl ?_
  rintro _ w ⟨rfl, rfl⟩
  refine p_val (e_neq rfl rfl) rfl ?_
  refine p_nil (x_then ?_)
  refine s_cond rfl (fun hc8 => ?_) (fun hc8 => ?_)
  · refine s_seq (s_plain ?_)
    refine p_val (e_assign (v := .slice _ _ _) rfl) rfl ?_
    refine p_nil (x_then (s_ret (x_then_ret ?_)))
    exact post1 (v := .slice _ _ _) Try.results114 rfl (⟨none, 0, [], _, _, _, _, by unfold rRaw; rw [if_neg hc8], rfl, EyeTo.refl cR, S.addNil 5 1⟩)
  · obtain rfl : e = 0 := Classical.not_not.1 hc8
    refine s_skip (x_then (s_seq (s_seq ?_)))
    refine s_cutK (ks := [some hb]) (ps := [Ex _ _]) [(0, .pointer _), (1, .int _ _)] ⟨rfl, rfl, trivial⟩ S (fun keep ks ps f' w' => ∃ u bb, f' = upds u ((19, .bool bb) :: keep) ∧ (bb = true ↔ (m < 0 ∨ (l.length : Int) < m)) ∧ St w0 w' (exOf [some hb]) ks ps) ?_ ?_
    · refine s_plain ?_
      refine p_val (e_move (v := .int _ _) rfl) rfl ?_
      refine p_valB (e_lss rfl rfl) rfl (fun hg10 => ?_) (fun hg10 => ?_)
      · refine p_val (e_move (v := .bool _) rfl) rfl ?_
        refine p_no rfl rfl rfl rfl rfl ?_
        refine p_no rfl rfl rfl rfl rfl ?_
        refine p_no rfl rfl rfl rfl rfl ?_
        refine p_no rfl rfl rfl rfl rfl ?_
        refine p_no rfl rfl rfl rfl rfl ?_
        refine p_no rfl rfl rfl rfl rfl ?_
        refine p_no rfl rfl rfl rfl rfl ?_
        refine p_val (e_pick_t rfl rfl) rfl ?_
        exact p_nil (x_then ⟨_, rfl, _, _, upds_eq ⟨rfl, rfl, rfl, trivial⟩, by first | (simp only [decide_eq_true_eq, eq_self, true_iff, iff_true, iff_false, Bool.false_eq_true, false_iff, ge_iff_le, gt_iff_lt, true_and, and_true, false_and, and_false, true_or, or_true, false_or, or_false, not_true_eq_false, not_false_eq_true]; omega) | simp | omega | simp_all, S⟩)
      · refine p_val (e_move (v := .bool _) rfl) rfl ?_
        refine pg_val rfl rfl rfl rfl rfl (e_move (v := .int _ _) rfl) ?_
        refine pg_val rfl rfl rfl rfl rfl (e_move (v := .pointer _) rfl) ?_
        refine pg_val rfl rfl rfl rfl rfl (e_nil rfl rfl) ?_
        refine pg_val rfl rfl rfl rfl rfl (e_field rfl Try.underlying164 rfl sz33 (by decide)) ?_
        refine pg_val rfl rfl rfl rfl rfl (e_loadF1 (i := 0) (off := 0) rfl ag33 S (j := 0) rfl rfl rfl (by first | with_reducible assumption | (simp [cat]; done) | (simp [cat]; omega) | rfl)) ?_
        refine pg_val rfl rfl rfl rfl rfl (e_len rfl Try.underlying33) ?_
        refine pg_val rfl rfl rfl rfl rfl (e_gtr rfl rfl) ?_
        refine p_val (e_pick_f rfl rfl) rfl ?_
        exact p_nil (x_then ⟨_, rfl, _, _, upds_eq ⟨rfl, rfl, rfl, trivial⟩, by first | (simp only [decide_eq_true_eq, eq_self, true_iff, iff_true, iff_false, Bool.false_eq_true, false_iff, ge_iff_le, gt_iff_lt, true_and, and_true, false_and, and_false, true_or, or_true, false_or, or_false, not_true_eq_false, not_false_eq_true]; omega) | simp | omega | simp_all, S⟩)
    · rintro f w ⟨u, b19, rfl, hb19, S⟩
      refine x_then ?_
      refine s_condb rfl (fun hc19 => ?_) (fun hc19 => ?_)
      · have hp19 : (m < 0 ∨ (l.length : Int) < m) := hb19.1 hc19
        refine s_seq (s_plain ?_)
        refine p_val (e_move (v := .pointer _) rfl) rfl ?_
        refine p_does (d_call Try.func112 nm112 rfl rfl (eye_fail _ _ _ _ _ _ _ (S.hr [0] rfl))) rfl ?_
        rintro _ w ⟨rfl, T⟩
        have S := (S.call [0] T rfl).pk [0] rfl
        refine p_nil (x_then (s_seq (s_plain ?_)))
        refine p_val (e_assign (v := .slice _ _ _) rfl) rfl ?_
        refine p_nil (x_then (s_ret (x_then_ret ?_)))
        exact post1 (v := .slice _ _ _) Try.results114 rfl (⟨none, 0, [], _, _, _, _, by unfold rRaw; rw [if_pos rfl, if_pos hp19]; rfl, rfl, EyeTo.refl cR, S.addNil 5 1⟩)
      · have hp19 : ¬ (m < 0 ∨ (l.length : Int) < m) := fun h => by rw [hb19.2 h] at hc19; cases hc19
        obtain ⟨j, hj⟩ : ∃ j : Nat, m = (j : Int) := ⟨m.toNat, by omega⟩
        subst hj
        refine s_skip (x_then (s_seq (s_plain ?_)))
        refine p_val (e_move (v := .pointer _) rfl) rfl ?_
        refine p_val (e_nil rfl rfl) rfl ?_
        refine p_val (e_field rfl Try.underlying164 rfl sz33 (by decide)) rfl ?_
        refine p_val (e_loadF1 (i := 0) (off := 0) rfl ag33 S (j := 0) rfl rfl rfl (by first | with_reducible assumption | (simp [cat]; done) | (simp [cat]; omega) | rfl)) rfl ?_
        refine p_val (e_move (v := .int _ _) rfl) rfl ?_
        refine p_val (e_sl_h (j) rfl rfl (rfl) (by omega) Try.underlying33 sz5) rfl ?_
        have S := S.addNil 5 1
        refine p_does (d_append S 0 rfl rfl Try.underlying33 el5 rfl rfl (Rd.take_bv (S.rdOff R oR) (by omega)) (by first | exact bv_one _ | exact sv_one _ | exact iv_one _ | with_reducible assumption | (refine One.mem ?_; repeat (first | exact One.bv _ | exact One.sv _ | exact One.iv _ | exact One.nil | exact One.cat0 | refine One.cat1 ?_ ?_ | refine One.cons rfl ?_ | refine One.append ?_ ?_))) (by first | omega | (simp only [List.length_append, List.length_cons, List.length_nil, bv_length]; omega) | (simp [cat]; omega)) (by unfold maxLen; first | omega | (simp only [List.length_append, List.length_cons, List.length_nil, bv_length]; omega))) rfl ?_
        rintro _ w ⟨k28, c28, rfl, S⟩
        refine p_val (e_assign (v := .slice _ _ _) rfl) rfl ?_
        refine p_nil (x_then (s_seq (s_plain ?_)))
        refine p_val (e_move (v := .pointer _) rfl) rfl ?_
        refine p_val (e_move (v := .pointer _) rfl) rfl ?_
        refine p_val (e_nil rfl rfl) rfl ?_
        refine p_val (e_field rfl Try.underlying164 rfl sz33 (by decide)) rfl ?_
        refine p_val (e_loadF1 (i := 0) (off := 0) rfl ag33 S (j := 1) rfl rfl rfl (by first | with_reducible assumption | (simp [cat]; done) | (simp [cat]; omega) | rfl)) rfl ?_
        refine p_val (e_move (v := .int _ _) rfl) rfl ?_
        refine p_val (e_sl_l (j) rfl rfl (rfl) (by omega) Try.underlying33 sz5) rfl ?_
        refine p_val (e_nil rfl rfl) rfl ?_
        refine p_val (e_field rfl Try.underlying164 rfl sz33 (by decide)) rfl ?_
        refine p_does (d_storeF1 (v := .slice _ _ _) (off := 0) S 1 0 rfl rfl rfl sz33 rfl rfl rfl (by first | with_reducible assumption | (simp [cat]; done) | (simp [cat]; omega) | rfl)) rfl ?_
        intro _ w S
        refine p_nil (x_then (s_seq (s_plain ?_)))
        refine p_val (e_move (v := .slice _ _ _) rfl) rfl ?_
        refine p_val (e_assign (v := .slice _ _ _) rfl) rfl ?_
        refine p_nil (x_then (s_ret ?_))
        exact post1 (v := .slice _ _ _) Try.results114 rfl (⟨_, _, l.take j, _, _, _, _, by unfold rRaw; rw [if_pos rfl, if_neg hp19, Int.toNat_natCast], by rw [List.length_take, Nat.min_eq_left (by omega), Nat.zero_add], EyeTo.drop (m := j) (by omega) cR, by unfold eyeE; rw [List.length_drop, List.length_take, Nat.min_eq_left (by omega)]; have S := S.pk [0, 1] rfl; rw [Nat.zero_add] at S; exact S⟩)
theorem eye_text (w0 : World) (hb : Nat) (A : Option Addr) (c : Nat) (e m : Int) (l : List Nat) (S0 : St w0 w0 (exOf [some hb]) [some hb] [eyeE A c e l]) (R : Rd w0 1 A l.length (bv l)) (oR : Off A l.length (exOf [some hb])) (bR : Bytes l) (cR : l.length ≤ c) (nR : l.length ≤ 1099511000000) :
    Ret Try.prog 106 [.pointer (some ⟨hb, 0, none⟩), .int .i64 m] w0 fun v w' => ∃ k2 c2 s e1 l1 A1 c1, rText m e l = (s, e1, l1) ∧ v = .slice (at_ k2) (List.length s) c2 ∧ EyeTo A c l A1 c1 l1 ∧ St w0 w' (exOf [some hb]) [k2, some hb] [Rw 5 1 s.length c2 (bv s), eyeE A1 c1 e1 l1] := by
  refine enter Try.func106 rfl Try.ntmps106 (Nat.le_of_ble_eq_true rfl) ?_
  have S := S0
  refine s_seq (s_plain ?_)
  refine p_val (e_assign (v := .slice _ _ _) rfl) rfl ?_
  refine p_nil (x_then (s_seq (s_plain ?_)))
  refine p_val (e_move (v := .pointer _) rfl) rfl ?_
  refine p_val (e_move (v := .pointer _) rfl) rfl ?_
  refine p_val (e_move (v := .int _ _) rfl) rfl ?_
  refine p_does (d_call Try.func104 nm104 rfl rfl (eye_upto _ _ _ _ _ _ _ (S.hr [0] rfl) (S.rdOff R oR) (S.offOld [0] R (by decide) oR rfl) bR cR nR)) rfl ?_
  rintro _ w ⟨a8, e8, l8, A8, c8, q8, rfl, t8, T⟩
  have S := (S.call [0] T rfl).pk [0] rfl
  have R8 := t8.rd _ R
  have bR8 := t8.by_ bR
  have cR8 := t8.cap
  have nR8 := t8.len nR
  have oR8 := t8.off _ oR
  refine p_does (d_call Try.func114 nm114 rfl rfl (eye_raw _ _ _ _ _ _ _ (S.hr [0] rfl) (S.rdOff R8 oR8) (S.offOld [0] R8 (by decide) oR8 rfl) cR8 nR8)) rfl ?_
  rintro _ w ⟨k9, cc9, s9, e9, l9, A9, c9, q9, rfl, t9, T⟩
  have S := (S.call [0] T rfl).pk [0, 1] rfl
  have R9 := t9.rd _ R8
  have bR9 := t9.by_ bR8
  have cR9 := t9.cap
  have nR9 := t9.len nR8
  have oR9 := t9.off _ oR8
  refine p_val (e_assign (v := .slice _ _ _) rfl) rfl ?_
  refine p_nil (x_then (s_ret ?_))
  exact post1 (v := .slice _ _ _) Try.results106 rfl (⟨_, _, _, _, _, _, _, rText_of q8 q9, rfl, t8.trans t9, S⟩)
theorem eye_sum (w0 : World) (hb : Nat) (A : Option Addr) (c : Nat) (e : Int) (l : List Nat) (S0 : St w0 w0 (exOf [some hb]) [some hb] [eyeE A c e l]) (R : Rd w0 1 A l.length (bv l)) (oR : Off A l.length (exOf [some hb])) (bR : Bytes l) (cR : l.length ≤ c) (nR : l.length ≤ 1099511000000) :
    Ret Try.prog 105 [.pointer (some ⟨hb, 0, none⟩)] w0 fun v w' => ∃ s e1 l1 A1 c1, rSum e l = (s, e1, l1) ∧ List.length s = 32 ∧ v = .agg (bv s).toArray ∧ EyeTo A c l A1 c1 l1 ∧ St w0 w' (exOf [some hb]) [some hb] [eyeE A1 c1 e1 l1] := by
  refine enter Try.func105 rfl Try.ntmps105 (Nat.le_of_ble_eq_true rfl) ?_
  have S := S0
  refine s_seq (s_plain ?_)
  refine p_does (d_allocA S zvS) rfl ?_
  rintro _ w ⟨b2, rfl, S⟩
  refine p_nil (x_then (s_seq (s_plain ?_)))
  refine p_does (d_allocA S zvS) rfl ?_
  rintro _ w ⟨b3, rfl, S⟩
  refine p_nil (x_then (s_seq ?_))
  refine s_drawZ [(true, 0), (true, 1), (false, 2), (false, 3)] [] [] (fun _ => True) mixed (by kernel_rfl) (by repeat (first | exact Calm.post _ _ _ | refine Calm.then ?_ _ | refine Calm.inB ?_ _)) ?_
  have hS : True := trivial
  have S := S.drew
  refine q_val (fun w hS => e_sl_arr rfl Try.underlying29 sz5) rfl hS ?_
  refine q_val (fun w hS => e_move (v := .pointer _) rfl) rfl hS ?_
  refine q_does (d_call Try.func114 nm114 rfl rfl (eye_raw _ _ _ _ _ _ _ (S.hr [2] rfl) (S.rdOff R oR) (S.offOld [2] R (by decide) oR rfl) cR nR)) rfl ?_
  rintro _ w ⟨k6, cc6, s6, e6, l6, A6, c6, q6, rfl, t6, T⟩
  have S := (S.call [2] T rfl).pk [0, 2, 3, 1] rfl
  have R6 := t6.rd _ R
  have bR6 := t6.by_ bR
  have cR6 := t6.cap
  have nR6 := t6.len nR
  have oR6 := t6.off _ oR
  have hS := trivial
  refine ⟨hS, ?_⟩
  refine q_does (d_copy0 S 1 rfl rfl Try.underlying33 (by kernel_rfl) rfl rfl (S.rdRw 0 rfl rfl) (by first | exact bv_one _ | exact sv_one _ | exact iv_one _ | with_reducible assumption | (refine One.mem ?_; repeat (first | exact One.bv _ | exact One.sv _ | exact One.iv _ | exact One.nil | exact One.cat0 | refine One.cat1 ?_ ?_ | refine One.cons rfl ?_ | refine One.append ?_ ?_))) (by rw [List.size_toArray, bv_length, length_zsum]; omega)) rfl ?_
  rintro _ w ⟨rfl, S⟩
  have S := S.set1Ex 1 rfl (copy_sum32 (rRaw_len q6))
  have hS := trivial
  refine ⟨hS, ?_⟩
  refine q_nil (p_nil (x_then (s_seq (s_plain ?_))))
  refine p_val (e_loadW 1 rfl ag29 sz29 S rfl rfl (by first | with_reducible assumption | (simp [cat, length_zsum, length_sum32]; done) | (simp [cat, length_zsum, length_sum32]; omega) | rfl)) rfl ?_
  refine p_does (d_storeW S 2 rfl rfl (by first | exact bv_one _ | exact sv_one _ | exact iv_one _ | with_reducible assumption | (refine One.mem ?_; repeat (first | exact One.bv _ | exact One.sv _ | exact One.iv _ | exact One.nil | exact One.cat0 | refine One.cat1 ?_ ?_ | refine One.cons rfl ?_ | refine One.append ?_ ?_))) sz29 (by first | with_reducible assumption | (simp [cat, length_zsum, length_sum32]; done) | (simp [cat, length_zsum, length_sum32]; omega) | rfl) rfl rfl (by first | with_reducible assumption | (simp [cat, length_zsum, length_sum32]; done) | (simp [cat, length_zsum, length_sum32]; omega) | rfl)) rfl ?_
  intro _ w S
  refine p_nil (x_then (s_ret ?_))
  exact postC Try.results105 S 2 rfl rfl rfl ag29 sz29 (by first | with_reducible assumption | (simp [cat, length_zsum, length_sum32]; done) | (simp [cat, length_zsum, length_sum32]; omega) | rfl) (⟨_, _, _, _, _, rSum_of q6, length_sum32 _, rfl, t6, S.pk [3] rfl⟩)
theorem eye_done (w0 : World) (hb : Nat) (A : Option Addr) (c : Nat) (e : Int) (l : List Nat) (S0 : St w0 w0 (exOf [some hb]) [some hb] [eyeE A c e l]) :
    Ret Try.prog 107 [.pointer (some ⟨hb, 0, none⟩)] w0 fun v w' => v = .int .i64 (rDone e l) ∧ St w0 w' (exOf [some hb]) [some hb] [eyeE A c (rDone e l) l] := by
  refine enter Try.func107 rfl Try.ntmps107 (Nat.le_of_ble_eq_true rfl) ?_
  have S := S0
  refine s_seq (s_plain ?_)
  refine p_val (e_assign (v := .int _ _) rfl) rfl ?_
  refine p_nil (x_then (s_seq ?_))
  refine s_cutK (ks := [some hb]) (ps := [Ex _ _]) [(0, .pointer _)] ⟨rfl, trivial⟩ S (fun keep ks ps f' w' => ∃ u, f' = upds u (keep) ∧ St w0 w' (exOf [some hb]) [some hb] [eyeE A c (rDone e l) l]) ?_ ?_
  · refine s_seq ?_
    refine s_cutK (ks := [some hb]) (ps := [Ex _ _]) [(0, .pointer _)] ⟨rfl, trivial⟩ S (fun keep ks ps f' w' => ∃ u bb, f' = upds u ((13, .bool bb) :: keep) ∧ (bb = true ↔ (e = 0 ∧ 0 < l.length)) ∧ St w0 w' (exOf [some hb]) ks ps) ?_ ?_
    · refine s_plain ?_
      refine p_val (e_move (v := .pointer _) rfl) rfl ?_
      refine p_does (d_call Try.func113 nm113 rfl rfl (eye_err _ _ _ _ _ _ (S.hr [0] rfl))) rfl ?_
      rintro _ w ⟨rfl, rfl⟩
      refine p_valB (e_eql rfl rfl) rfl (fun hg5 => ?_) (fun hg5 => ?_)
      · refine p_val (e_move (v := .bool _) rfl) rfl ?_
        refine pg_val rfl rfl rfl rfl rfl (e_move (v := .pointer _) rfl) ?_
        refine pg_val rfl rfl rfl rfl rfl (e_nil rfl rfl) ?_
        refine pg_val rfl rfl rfl rfl rfl (e_field rfl Try.underlying164 rfl sz33 (by decide)) ?_
        refine pg_val rfl rfl rfl rfl rfl (e_loadF1 (i := 0) (off := 0) rfl ag33 S (j := 0) rfl rfl rfl (by first | with_reducible assumption | (simp [cat]; done) | (simp [cat]; omega) | rfl)) ?_
        refine pg_val rfl rfl rfl rfl rfl (e_len rfl Try.underlying33) ?_
        refine pg_val rfl rfl rfl rfl rfl (e_gtr rfl rfl) ?_
        refine p_val (e_pick_t rfl rfl) rfl ?_
        exact p_nil (x_then ⟨_, rfl, _, _, upds_eq ⟨rfl, rfl, trivial⟩, by first | (simp only [decide_eq_true_eq, eq_self, true_iff, iff_true, iff_false, Bool.false_eq_true, false_iff, ge_iff_le, gt_iff_lt, true_and, and_true, false_and, and_false, true_or, or_true, false_or, or_false, not_true_eq_false, not_false_eq_true]; omega) | simp | omega | simp_all, S⟩)
      · refine p_val (e_move (v := .bool _) rfl) rfl ?_
        refine p_no rfl rfl rfl rfl rfl ?_
        refine p_no rfl rfl rfl rfl rfl ?_
        refine p_no rfl rfl rfl rfl rfl ?_
        refine p_no rfl rfl rfl rfl rfl ?_
        refine p_no rfl rfl rfl rfl rfl ?_
        refine p_no rfl rfl rfl rfl rfl ?_
        refine p_val (e_pick_f rfl rfl) rfl ?_
        exact p_nil (x_then ⟨_, rfl, _, _, upds_eq ⟨rfl, rfl, trivial⟩, by first | (simp only [decide_eq_true_eq, eq_self, true_iff, iff_true, iff_false, Bool.false_eq_true, false_iff, ge_iff_le, gt_iff_lt, true_and, and_true, false_and, and_false, true_or, or_true, false_or, or_false, not_true_eq_false, not_false_eq_true]; omega) | simp | omega | simp_all, S⟩)
    · rintro f w ⟨u, b13, rfl, hb13, S⟩
      refine x_then ?_
      refine s_condb rfl (fun hc13 => ?_) (fun hc13 => ?_)
      · have hp13 : (e = 0 ∧ 0 < l.length) := hb13.1 hc13
        refine s_plain ?_
        refine p_val (e_move (v := .pointer _) rfl) rfl ?_
        refine p_does (d_call Try.func112 nm112 rfl rfl (eye_fail _ _ _ _ _ _ _ (S.hr [0] rfl))) rfl ?_
        rintro _ w ⟨rfl, T⟩
        have S := (S.call [0] T rfl).pk [0] rfl
        refine p_nil ?_
        exact x_then ⟨_, rfl, _, upds_eq ⟨rfl, trivial⟩, by unfold rDone; rw [if_pos hp13]; have S := S; rw [hp13.1] at S; exact S⟩
      · have hp13 : ¬ (e = 0 ∧ 0 < l.length) := fun h => by rw [hb13.2 h] at hc13; cases hc13
        refine s_skip ?_
        exact x_then ⟨_, rfl, _, upds_eq ⟨rfl, trivial⟩, by unfold rDone; rw [if_neg hp13]; exact S⟩
  · rintro f w ⟨u, rfl, S⟩
    refine x_then (s_seq (s_plain ?_))
    refine p_val (e_move (v := .pointer _) rfl) rfl ?_
    refine p_does (d_call Try.func113 nm113 rfl rfl (eye_err _ _ _ _ _ _ (S.hr [0] rfl))) rfl ?_
    rintro _ w ⟨rfl, rfl⟩
    refine p_val (e_assign (v := .int _ _) rfl) rfl ?_
    refine p_nil (x_then (s_ret ?_))
    exact post1 (v := .int _ _) Try.results107 rfl (⟨rfl, S⟩)
end Go.Proofs.Ytdhfiamgmokfbaa

/- Keys that sign more than once: seeds, leaves, new keys, walked. It proves no statement by itself. -/
set_option linter.unusedSimpArgs false
set_option linter.unusedVariables false
set_option maxRecDepth 100000
set_option maxHeartbeats 1000000
namespace Go.Proofs.Ytdhfiamgmokfbaa
open Go Go.RowKit E
attribute [local irreducible] wpList seqH treeH
@[irreducible] def mseed (s : List Nat) (i : Int) : List Nat := join 21 [s, [(i % 256).toNat]]
theorem length_mseed (s : List Nat) (i : Int) : (mseed s i).length = 32 := by unfold mseed; exact length_join _ _
def mkeys (s : List Nat) : Nat → List (List Nat)
  | 0 => []
  | n + 1 => mkeys s n ++ [lpub (mseed s (n : Int))]
theorem mkeys_len (s : List Nat) : ∀ n, (mkeys s n).length = n
  | 0 => rfl
  | n + 1 => by rw [mkeys, List.length_append, mkeys_len s n]; rfl
theorem mkeys_all (s : List Nat) : ∀ n, All32 (mkeys s n)
  | 0 => by simp [mkeys, All32]
  | n + 1 => by rw [mkeys]; exact (mkeys_all s n).append (All32.single (length_lpub _))
theorem mn_seed (w0 : World) (s : List Nat) (i : Int) (hs : s.length = 32) :
    Ret Try.prog 71 [.agg (bv s).toArray, .int .i64 i] w0 fun v w' => v = .agg (bv (mseed s i)).toArray ∧ Below w0.heap.size w0 w' := by
  refine enter Try.func71 rfl Try.ntmps71 (Nat.le_of_ble_eq_true rfl) ?_
  have S := St.init w0
  refine s_seq (s_plain ?_)
  refine p_does (d_boxA S rfl) rfl ?_
  rintro _ w ⟨b2, rfl, S⟩
  refine p_does (d_allocA S zvS) rfl ?_
  rintro _ w ⟨b4, rfl, S⟩
  refine p_nil (x_then (s_seq (s_plain ?_)))
  refine p_val (e_sl_arr rfl Try.underlying29 sz5) rfl ?_
  refine p_val (e_move (v := .int _ _) rfl) rfl ?_
  refine p_val (e_conv8i rfl Try.underlying3 (by simp) Try.underlying5) rfl ?_
  refine p_does (d_litB S Try.underlying33 sz5 zv5 rfl (l := [_]) rfl rfl (by decide)) rfl ?_
  rintro _ w ⟨b8, rfl, S⟩
  refine p_does (d_lit1 S Try.underlying90 sz33 zv33 rfl (vs := [.slice _ _ _, .slice _ _ _]) rfl rfl rfl (by decide)) rfl ?_
  rintro _ w ⟨b9, rfl, S⟩
  refine p_does (d_call Try.func19 nm19 rfl rfl (join_calls _ _ _ _ [_, _] (Parts.two (S.rdRw 0 rfl rfl) (S.rdBytes 3 rfl rfl (by first | with_reducible assumption | (rw [bv_length]; with_reducible assumption) | (rw [List.size_toArray, bv_length]; with_reducible assumption) | (simp [cat, hs, length_join, length_mseed]; done) | (simp [cat, hs, length_join, length_mseed]; omega) | rfl)) (S.rdRw 1 rfl rfl)) (by first | (simp [joinB, len4, cat, hs, length_join, length_mseed]; done) | (simp [joinB, len4, cat, hs, length_join, length_mseed]; omega)) (by simp))) rfl ?_
  rintro _ w ⟨rfl, hB⟩
  have S := S.below hB
  refine p_does (d_storeW S 2 rfl rfl (by first | exact bv_one _ | exact sv_one _ | exact iv_one _ | with_reducible assumption | (refine One.mem ?_; repeat (first | exact One.bv _ | exact One.sv _ | exact One.iv _ | exact One.nil | exact One.cat0 | refine One.cat1 ?_ ?_ | refine One.cons rfl ?_ | refine One.append ?_ ?_))) sz29 (by first | with_reducible assumption | (rw [bv_length]; with_reducible assumption) | (rw [List.size_toArray, bv_length]; with_reducible assumption) | (simp [cat, hs, length_join, length_mseed]; done) | (simp [cat, hs, length_join, length_mseed]; omega) | rfl) rfl rfl (by first | with_reducible assumption | (rw [bv_length]; with_reducible assumption) | (rw [List.size_toArray, bv_length]; with_reducible assumption) | (simp [cat, hs, length_join, length_mseed]; done) | (simp [cat, hs, length_join, length_mseed]; omega) | rfl)) rfl ?_
  intro _ w S
  refine p_nil (x_then (s_ret ?_))
  exact postC Try.results71 S 2 rfl rfl rfl ag29 sz29 (by first | with_reducible assumption | (rw [bv_length]; with_reducible assumption) | (rw [List.size_toArray, bv_length]; with_reducible assumption) | (simp [cat, hs, length_join, length_mseed]; done) | (simp [cat, hs, length_join, length_mseed]; omega) | rfl) (⟨by unfold mseed; rfl, S.to_below⟩)
theorem l5leaves (w0 : World) (s : List Nat) (n : Nat) (hs : s.length = 32) (hn : n ≤ 64) :
    Ret Try.prog 60 [.agg (bv s).toArray, .int .i64 (n : Int)] w0 fun v w' => ∃ k c, v = .slice (at_ k) (mkeys s n).length c ∧ St w0 w' [] [k] [Rw 29 32 (mkeys s n).length c (sv (mkeys s n))] := by
  refine enter Try.func60 rfl Try.ntmps60 (Nat.le_of_ble_eq_true rfl) ?_
  have S := St.init w0
  refine s_seq (s_plain ?_)
  refine p_does (d_boxA S rfl) rfl ?_
  rintro _ w ⟨b2, rfl, S⟩
  refine p_val (e_assign (v := .slice _ _ _) rfl) rfl ?_
  refine p_nil (x_then (s_seq (s_plain ?_)))
  refine p_val (e_assign (v := .slice _ _ _) rfl) rfl ?_
  refine p_nil (x_then (s_seq (s_seq (s_plain ?_))))
  refine p_val (e_assign (v := .int _ _) rfl) rfl ?_
  refine p_nil (x_then (s_block ?_))
  have S := S.addNil 29 32
  refine s_loopK (α := Nat) (ks := [none, some b2]) (ps := [Rw _ _ _ _ _, Ex _ _]) [(1, .int _ _), (2, .pointer _)] ⟨rfl, rfl, trivial⟩ S (fun keep ks ps g f' w' => ∃ u Kk5 Ck5 xs, f' = upds u ((5, .slice (at_ Kk5) (g) Ck5) :: (6, .int .i64 (g : Int)) :: keep) ∧ (g ≤ n) ∧ (xs = sv (mkeys s g)) ∧ St w0 w' [] [Kk5, some b2] [Rw 29 32 (g) Ck5 (xs), (ps.getD 1 fun _ => True)]) (fun g => n - g) (0) (⟨_, _, _, _, upds_eq ⟨rfl, rfl, rfl, rfl, trivial⟩, by first | omega | rfl | with_reducible assumption | (simp; done) | (simp; omega), by first | omega | rfl | with_reducible assumption | (simp; done) | (simp; omega), S⟩) ?_
  rintro g f w ⟨u, Kk5, Ck5, xs, rfl, hg, rfl, S⟩
  refine s_seq (s_seq (s_plain ?_))
  refine p_val (e_move (v := .int _ _) rfl) rfl ?_
  refine p_val (e_move (v := .int _ _) rfl) rfl ?_
  refine p_val (e_lss rfl rfl) rfl ?_
  refine p_nil (x_then ?_)
  refine s_cond rfl (fun hc9 => ?_) (fun hc9 => ?_)
  · refine s_skip (x_then (s_seq (s_block (s_plain ?_))))
    refine p_val (e_move (v := .slice _ _ _) rfl) rfl ?_
    refine p_val (e_sl_arr rfl Try.underlying29 sz5) rfl ?_
    refine p_val (e_move (v := .int _ _) rfl) rfl ?_
    refine p_val (e_conv8i rfl Try.underlying3 (by simp) Try.underlying5) rfl ?_
    refine p_does (d_litB S Try.underlying33 sz5 zv5 rfl (l := [_]) rfl rfl (by decide)) rfl ?_
    rintro _ w ⟨b16, rfl, S⟩
    refine p_does (d_lit1 S Try.underlying90 sz33 zv33 rfl (vs := [.slice _ _ _, .slice _ _ _]) rfl rfl rfl (by decide)) rfl ?_
    rintro _ w ⟨b17, rfl, S⟩
    refine p_does (d_call Try.func19 nm19 rfl rfl (Ret.mono (R' := fun v w' => v = .agg (bv (mseed s (g : Int))).toArray ∧ Below _ _ w') (join_calls _ _ _ _ [_, _] (Parts.two (S.rdRw 0 rfl rfl) (S.rdBytes 3 rfl rfl (by first | with_reducible assumption | (rw [bv_length]; with_reducible assumption) | (rw [List.size_toArray, bv_length]; with_reducible assumption) | (simp [cat, hs, length_join, length_mseed, length_lpub]; done) | (simp [cat, hs, length_join, length_mseed, length_lpub]; omega) | rfl)) (S.rdRw 1 rfl rfl)) (by simp [joinB, len4, hs]) (by simp)) (fun v w' ⟨hv, hB⟩ => ⟨by rw [hv]; unfold mseed; rfl, hB⟩))) rfl ?_
    rintro _ w ⟨rfl, hB⟩
    have S := S.below hB
    refine p_does (d_call Try.func31 nm31 rfl rfl (lpub_calls _ _ (length_mseed _ _))) rfl ?_
    rintro _ w ⟨rfl, hB⟩
    have S := S.below hB
    refine p_does (d_litS S Try.underlying24 sz29 zv29 rfl (L := [_]) rfl rfl (by intro x hx; simp at hx; simp [hx, hs, length_join, length_mseed, length_lpub]) (by decide)) rfl ?_
    rintro _ w ⟨b20, rfl, S⟩
    refine p_does (d_append S 3 rfl rfl Try.underlying24 el29 rfl rfl (S.rdRw 0 rfl rfl) (by first | exact bv_one _ | exact sv_one _ | exact iv_one _ | with_reducible assumption | (refine One.mem ?_; repeat (first | exact One.bv _ | exact One.sv _ | exact One.iv _ | exact One.nil | exact One.cat0 | refine One.cat1 ?_ ?_ | refine One.cons rfl ?_ | refine One.append ?_ ?_))) (by first | omega | (simp only [List.length_append, List.length_cons, List.length_nil, bv_length, hs, length_join, length_mseed, length_lpub]; omega) | (simp [cat, hs, length_join, length_mseed, length_lpub]; omega)) (by unfold maxLen; first | omega | (simp only [List.length_append, List.length_cons, List.length_nil, bv_length, hs, length_join, length_mseed, length_lpub]; omega))) rfl ?_
    rintro _ w ⟨k21, c21, rfl, S⟩
    refine p_val (e_assign (v := .slice _ _ _) rfl) rfl ?_
    refine p_nil (x_in (x_then (s_plain ?_)))
    refine p_val (e_move (v := .int _ _) rfl) rfl ?_
    refine p_val (e_add64 rfl rfl (by omega)) rfl ?_
    refine p_val (e_assign (v := .int _ _) rfl) rfl ?_
    refine p_nil ?_
    refine x_round (g + 1) _ rfl ⟨_, _, _, _, upds_eq ⟨rfl, rfl, rfl, rfl, trivial⟩, by first | omega | rfl | with_reducible assumption | (simp; done) | (simp; omega), by rw [mkeys, sv_append], S.pk [3, 4] rfl⟩ (by omega)
  · refine s_exit (x_then_exit (x_then_exit (x_in_same (x_then (s_seq (s_plain ?_))))))
    refine p_val (e_move (v := .slice _ _ _) rfl) rfl ?_
    refine p_val (e_assign (v := .slice _ _ _) rfl) rfl ?_
    refine p_nil (x_then (s_ret ?_))
    exact post1 (v := .slice _ _ _) Try.results60 rfl (by obtain rfl : g = n := (by omega); rw [mkeys_len]; exact ⟨_, _, rfl, S.pk [0] rfl⟩)
end Go.Proofs.Ytdhfiamgmokfbaa
