/- Lamport's law on what leads back. It proves no statement by itself. -/
import Derived.Test.YtdhfiamgmokfbaaLam7
set_option linter.unusedSimpArgs false
set_option linter.unusedVariables false
set_option maxRecDepth 100000
set_option maxHeartbeats 2000000
namespace Go.Proofs.Ytdhfiamgmokfbaa
open Go Go.RowKit E
def lbk (n : Nat) (l g : List Nat) : List Nat := if n = 4096 then lback l g else zsum
def ler (n : Nat) : Int := if n = 4096 then 0 else 11
theorem length_lbk (n : Nat) (l g : List Nat) : (lbk n l g).length = 32 := by unfold lbk; split <;> simp [length_lback, length_zsum]
theorem lback_gen (w0 : World) (A A2 : Option Addr) (n c0 n2 cc : Nat) (l g2 : List Nat) (R : Rd w0 1 A n (bv l)) (hn : n ≤ 1099511620000) (R2 : Rd w0 1 A2 n2 (bv g2)) (hcc : n2 ≤ cc) :
    Ret Try.prog 30 [.slice A n c0, .slice A2 n2 cc] w0 fun v w' => v = .tuple #[.agg (bv (lbk n2 l g2)).toArray, .int .i64 (ler n2)] ∧ Below w0.heap.size w0 w' :=
  (lback_calls w0 A A2 n c0 n2 cc l g2 R hn R2 hcc).mono fun v w' ⟨hv, hB⟩ => ⟨by rw [hv]; unfold lbk ler; split <;> rfl, hB⟩
theorem verify_gen (w0 : World) (key : List Nat) (A A2 : Option Addr) (n c0 n2 cc : Nat) (l g2 : List Nat) (hk : key.length = 32) (R : Rd w0 1 A n (bv l)) (hn : n ≤ 1099511620000) (R2 : Rd w0 1 A2 n2 (bv g2)) (hcc : n2 ≤ cc) :
    Ret Try.prog 32 [.agg (bv key).toArray, .slice A n c0, .slice A2 n2 cc] w0 fun v w' => v = .bool (decide (n2 = 4096 ∧ lback l g2 = key)) ∧ Below w0.heap.size w0 w' := by
  by_cases h : n2 = 4096
  · exact (verify_yes w0 key A A2 n c0 n2 cc l g2 hk R hn R2 hcc h).mono fun v w' ⟨hv, hB⟩ => ⟨by rw [hv]; simp [h], hB⟩
  · exact (verify_no w0 key A A2 n c0 n2 cc l g2 hk R hn R2 hcc h).mono fun v w' ⟨hv, hB⟩ => ⟨by rw [hv]; simp [h], hB⟩
theorem half_eq (g : List Nat) (i : Nat) : (g.take (64 * i + 32)).drop (64 * i) = half g i := by
  unfold half; rw [List.drop_take, show 64 * i + 32 - 64 * i = 32 by omega]
theorem oth_eq (g : List Nat) (i : Nat) : (g.take (64 * i + 64)).drop (64 * i + 32) = oth g i := by
  unfold oth; rw [List.drop_take]
theorem lbacks_calls (w0 : World) (A A2 : Option Addr) (n c n2 c2 : Nat) (l g2 key : List Nat) (R : Rd w0 1 A n (bv l)) (hc : n ≤ c) (R2 : Rd w0 1 A2 n2 (bv g2)) (hc2 : n2 ≤ c2) (hk : key.length = 32) :
    Ret Try.prog 5 [.slice A n c, .slice A2 n2 c2, .agg (bv key).toArray] w0 fun v w' => v = .bool true ∧ Below w0.heap.size w0 w' := by
  refine enter Try.func5 rfl Try.ntmps5 (Nat.le_of_ble_eq_true rfl) ?_
  have S := St.init w0
  have hg2 : g2.length = n2 := by simpa using R2.1
  refine s_seq (s_plain ?_)
  refine p_does (d_boxA S rfl) rfl ?_
  rintro _ w ⟨b5, rfl, S⟩
  refine p_val (e_assign (v := .bool _) rfl) rfl ?_
  refine p_nil (x_then (s_seq (s_plain ?_)))
  refine p_val (e_move (v := .slice _ _ _) rfl) rfl ?_
  refine p_does (d_call Try.func25 nm25 rfl rfl (cut_calls _ _ _ _ (by omega))) rfl ?_
  rintro _ w ⟨rfl, hB⟩
  have S := S.below hB
  refine p_val (e_assign (v := .slice _ _ _) rfl) rfl ?_
  refine p_nil (x_then (s_seq (s_plain ?_)))
  refine p_val (e_move (v := .slice _ _ _) rfl) rfl ?_
  refine p_val (e_move (v := .slice _ _ _) rfl) rfl ?_
  refine p_does (d_call Try.func30 nm30 rfl rfl (lback_gen _ _ _ _ _ _ _ _ _ (Rd.take_bv (S.rdOld R rfl) (Nat.min_le_left n 200)) (by omega) (S.rdOld R2 rfl) (by omega))) rfl ?_
  rintro _ w ⟨rfl, hB⟩
  have S := S.below hB
  refine p_val (e_move (v := .tuple _) rfl) rfl ?_
  refine p_val (e_extract rfl rfl) rfl ?_
  refine p_val (e_extract rfl rfl) rfl ?_
  refine p_does (d_allocA S zvS) rfl ?_
  rintro _ w ⟨b7, rfl, S⟩
  refine p_does (d_storeW S 0 rfl rfl (by first | exact bv_one _ | exact sv_one _ | exact iv_one _ | with_reducible assumption | (refine One.mem ?_; repeat (first | exact One.bv _ | exact One.sv _ | exact One.iv _ | exact One.nil | exact One.cat0 | refine One.cat1 ?_ ?_ | refine One.cons rfl ?_ | refine One.append ?_ ?_))) sz29 (by first | with_reducible assumption | (simp [cat, length_lbk, length_lback, length_lshown, length_join, length_ldig, length_zsum, hk]; done) | (simp [cat, length_lbk, length_lback, length_lshown, length_join, length_ldig, length_zsum, hk]; omega) | rfl) rfl rfl (by first | with_reducible assumption | (simp [cat, length_lbk, length_lback, length_lshown, length_join, length_ldig, length_zsum, hk]; done) | (simp [cat, length_lbk, length_lback, length_lshown, length_join, length_ldig, length_zsum, hk]; omega) | rfl)) rfl ?_
  intro _ w S
  refine p_val (e_assign (v := .int _ _) rfl) rfl ?_
  refine p_nil (x_then (s_seq (s_seq (s_plain ?_))))
  refine p_val (e_move (v := .slice _ _ _) rfl) rfl ?_
  refine p_val (e_len rfl Try.underlying33) rfl ?_
  refine p_val (e_neq rfl rfl) rfl ?_
  refine p_nil (x_then ?_)
  refine s_cond rfl (fun hc24 => ?_) (fun hc24 => ?_)
  · have h4 : ¬ n2 = 4096 := by omega
    refine s_seq ?_
    refine s_cutK (ks := [some b7, some b5]) (ps := [Ex _ _, Ex _ _]) [] trivial S (fun keep ks ps f' w' => ∃ u bb, f' = upds u ((6, .bool bb) :: keep) ∧ (bb = true ↔ True) ∧ St w0 w' [] ks ps) ?_ ?_
    · refine s_plain ?_
      refine p_val (e_loadW 0 rfl ag29 sz29 S rfl rfl (by first | with_reducible assumption | (simp [cat, length_lbk, length_lback, length_lshown, length_join, length_ldig, length_zsum, hk]; done) | (simp [cat, length_lbk, length_lback, length_lshown, length_join, length_ldig, length_zsum, hk]; omega) | rfl)) rfl ?_
      refine p_val (e_build (cs := bv zsum) (by kernel_rfl)) rfl ?_
      refine p_valB (EqT.sum eq29 gd29 rfl rfl (by first | with_reducible assumption | (simp [cat, length_lbk, length_lback, length_lshown, length_join, length_ldig, length_zsum, hk]; done) | (simp [cat, length_lbk, length_lback, length_lshown, length_join, length_ldig, length_zsum, hk]; omega) | rfl) (by first | with_reducible assumption | (simp [cat, length_lbk, length_lback, length_lshown, length_join, length_ldig, length_zsum, hk]; done) | (simp [cat, length_lbk, length_lback, length_lshown, length_join, length_ldig, length_zsum, hk]; omega) | rfl)) rfl (fun hg27 => ?_) (fun hg27 => ?_)
      · refine p_val (e_move (v := .bool _) rfl) rfl ?_
        refine pg_val rfl rfl rfl rfl rfl (e_move (v := .int _ _) rfl) ?_
        refine pg_valB rfl rfl rfl rfl rfl (e_eql rfl rfl) (fun hg30 => ?_) (fun hg30 => ?_)
        · refine p_val (e_pick_t rfl rfl) rfl ?_
          refine p_val (e_move (v := .bool _) rfl) rfl ?_
          refine pg_val rfl rfl rfl rfl rfl (e_loadW 1 rfl ag29 sz29 S rfl rfl (by first | with_reducible assumption | (simp [cat, length_lbk, length_lback, length_lshown, length_join, length_ldig, length_zsum, hk]; done) | (simp [cat, length_lbk, length_lback, length_lshown, length_join, length_ldig, length_zsum, hk]; omega) | rfl)) ?_
          refine pg_val rfl rfl rfl rfl rfl (e_move (v := .slice _ _ _) rfl) ?_
          refine pg_val rfl rfl rfl rfl rfl (e_move (v := .slice _ _ _) rfl) ?_
          refine pg_does rfl rfl rfl rfl rfl (d_call Try.func32 nm32 rfl rfl (verify_gen _ _ _ _ _ _ _ _ _ _ (by first | with_reducible assumption | (simp [cat, length_lbk, length_lback, length_lshown, length_join, length_ldig, length_zsum, hk]; done) | (simp [cat, length_lbk, length_lback, length_lshown, length_join, length_ldig, length_zsum, hk]; omega) | rfl) (Rd.take_bv (S.rdOld R rfl) (Nat.min_le_left n 200)) (by omega) (S.rdOld R2 rfl) (by omega))) ?_
          rintro _ w ⟨rfl, hB⟩
          have S := S.below hB
          rcases Classical.em (n2 = 4096 ∧ lback (l.take (min n 200)) g2 = key) with hg36 | hg36
          · exact False.elim (h4 hg36.1)
          · rw [decide_eq_false hg36]
            refine pg_val rfl rfl rfl rfl rfl (e_not rfl) ?_
            refine p_val (e_pick_t rfl rfl) rfl ?_
            refine p_val (e_move (v := .bool _) rfl) rfl ?_
            refine pg_does rfl rfl rfl rfl rfl (d_call Try.func34 nm34 rfl rfl (l4awake_calls _)) ?_
            rintro _ w ⟨rfl, hB⟩
            have S := S.below hB
            refine p_val (e_pick_t rfl rfl) rfl ?_
            refine p_val (e_assign (v := .bool _) rfl) rfl ?_
            exact p_nil (x_then ⟨_, rfl, _, _, upds_eq ⟨rfl, trivial⟩, by first | (simp only [decide_eq_true_eq, eq_self, true_iff, iff_true, iff_false, Bool.false_eq_true, false_iff, ge_iff_le, gt_iff_lt, true_and, and_true, false_and, and_false, true_or, or_true, false_or, or_false, not_true_eq_false, not_false_eq_true]; omega) | simp | omega | simp_all, S⟩)
        · exact False.elim (hg30 (if_neg h4))
      · exact False.elim (hg27 (if_neg h4))
    · rintro f w ⟨u, b6, rfl, hb6, S⟩
      refine x_then (s_ret (x_then_ret ?_))
      exact post1 (v := .bool _) Try.results5 rfl (⟨by rw [hb6.2 trivial], S.to_below⟩)
  · obtain rfl : n2 = 4096 := by omega
    refine s_skip (x_then (s_seq (s_plain ?_)))
    refine p_val (e_assign (v := .slice _ _ _) rfl) rfl ?_
    refine p_nil (x_then (s_seq (s_seq (s_plain ?_))))
    refine p_val (e_assign (v := .int _ _) rfl) rfl ?_
    refine p_nil (x_then (s_block ?_))
    have S := S.addNil 5 1
    refine s_loopK (α := Nat) (ks := [none, some b7, some b5]) (ps := [Rw _ _ _ _ _, Ex _ _, Ex _ _]) [(0, .slice _ _ _), (1, .slice _ _ _), (5, .pointer _), (7, .pointer _), (8, .int _ _)] ⟨rfl, rfl, rfl, rfl, rfl, trivial⟩ S (fun keep ks ps g f' w' => ∃ u Kk9 Ck9 m xs, f' = upds u ((9, .slice (at_ Kk9) (m) Ck9) :: (10, .int .i64 (g : Int)) :: keep) ∧ (g ≤ 64) ∧ (m = 64 * g) ∧ (xs = bv (backB (ldig (l.take (min n 200))) g2 g)) ∧ St w0 w' [] [Kk9, some b7, some b5] [Rw 5 1 (m) Ck9 (xs), (ps.getD 1 fun _ => True), (ps.getD 2 fun _ => True)]) (fun g => 64 - g) (0) (⟨_, _, _, _, _, upds_eq ⟨rfl, rfl, rfl, rfl, rfl, rfl, rfl, trivial⟩, by first | omega | rfl | with_reducible assumption | (simp; done) | (simp; omega), by first | omega | rfl | with_reducible assumption | (simp; done) | (simp; omega), by first | omega | rfl | with_reducible assumption | (simp; done) | (simp; omega), S⟩) ?_
    rintro g f w ⟨u, Kk9, Ck9, m, xs, rfl, hg, rfl, rfl, S⟩
    refine s_seq (s_seq (s_plain ?_))
    refine p_val (e_move (v := .int _ _) rfl) rfl ?_
    refine p_val (e_lss rfl rfl) rfl ?_
    refine p_nil (x_then ?_)
    refine s_cond rfl (fun hc43 => ?_) (fun hc43 => ?_)
    · refine s_skip (x_then (s_seq ?_))
      refine s_cutK (ks := [Kk9, some b7, some b5]) (ps := [Rw _ _ _ _ _, Ex _ _, Ex _ _]) [(0, .slice _ _ _), (1, .slice _ _ _), (5, .pointer _), (7, .pointer _), (8, .int _ _), (10, .int _ _)] ⟨rfl, rfl, rfl, rfl, rfl, rfl, trivial⟩ S (fun keep ks ps f' w' => ∃ u Kk9 Ck9 m xs, f' = upds u ((9, .slice (at_ Kk9) (m) Ck9) :: keep) ∧ (m = 64 * g + 64) ∧ (xs = bv (backB (ldig (l.take (min n 200))) g2 (g + 1))) ∧ St w0 w' [] [Kk9, some b7, some b5] [Rw 5 1 (m) Ck9 (xs), (ps.getD 1 fun _ => True), (ps.getD 2 fun _ => True)]) ?_ ?_
      · refine s_block (s_seq (s_plain ?_))
        refine p_does (d_allocA S zvS) rfl ?_
        rintro _ w ⟨b11, rfl, S⟩
        refine p_nil (x_then (s_seq ?_))
        refine s_drawZ [(true, 0), (true, 1), (true, 2), (true, 3), (true, 4), (true, 5), (true, 6), (true, 7), (false, 8)] [] [] (fun _ => True) mixed (by kernel_rfl) (by repeat (first | exact Calm.post _ _ _ | refine Calm.then ?_ _ | refine Calm.inB ?_ _)) ?_
        have hS : True := trivial
        have S := S.drew
        refine q_val (fun w hS => e_sl_arr rfl Try.underlying29 sz5) rfl hS ?_
        refine q_val (fun w hS => e_move (v := .slice _ _ _) rfl) rfl hS ?_
        refine q_val (fun w hS => e_move (v := .int _ _) rfl) rfl hS ?_
        refine q_val (fun w hS => e_mul64 rfl rfl (by omega)) rfl hS ?_
        refine q_val (fun w hS => e_move (v := .int _ _) rfl) rfl hS ?_
        refine q_val (fun w hS => e_mul64 rfl rfl (by omega)) rfl hS ?_
        refine q_val (fun w hS => e_add64 rfl rfl (by omega)) rfl hS ?_
        refine q_val (fun w hS => e_sl_lh (64 * g) (64 * g + 32) rfl rfl rfl (by omega) (by omega) (by omega) (by omega) Try.underlying33 sz5) rfl hS ?_
        refine q_does (d_copy0 S 0 rfl rfl Try.underlying33 (by kernel_rfl) rfl rfl (Rd.drop_bv (Rd.take_bv (S.rdOld R2 rfl) (by omega)) (by omega) (by omega)) (by first | exact bv_one _ | exact sv_one _ | exact iv_one _ | with_reducible assumption | (refine One.mem ?_; repeat (first | exact One.bv _ | exact One.sv _ | exact One.iv _ | exact One.nil | exact One.cat0 | refine One.cat1 ?_ ?_ | refine One.cons rfl ?_ | refine One.append ?_ ?_))) (by first | with_reducible assumption | (simp [cat, length_lbk, length_lback, length_lshown, length_join, length_ldig, length_zsum, hk]; done) | (simp [cat, length_lbk, length_lback, length_lshown, length_join, length_ldig, length_zsum, hk]; omega) | rfl)) rfl ?_
        rintro _ w ⟨rfl, S⟩
        have S := S.asEx (copy_all (by simp [length_zsum]) (by simp [hg2]; omega) (by omega))
        have hS := trivial
        refine ⟨hS, ?_⟩
        refine q_nil (x_then (s_seq (s_plain ?_)))
        refine p_val (e_loadW 0 rfl ag29 sz29 S rfl rfl (by first | with_reducible assumption | (simp [cat, length_lbk, length_lback, length_lshown, length_join, length_ldig, length_zsum, hk]; done) | (simp [cat, length_lbk, length_lback, length_lshown, length_join, length_ldig, length_zsum, hk]; omega) | rfl)) rfl ?_
        refine p_does (d_call Try.func28 nm28 rfl rfl (l4shown_calls _ _ (by first | with_reducible assumption | (simp [cat, length_lbk, length_lback, length_lshown, length_join, length_ldig, length_zsum, hk]; done) | (simp [cat, length_lbk, length_lback, length_lshown, length_join, length_ldig, length_zsum, hk]; omega) | rfl))) rfl ?_
        rintro _ w ⟨rfl, hB⟩
        have S := S.below hB
        refine p_does (d_allocA S zvS) rfl ?_
        rintro _ w ⟨b12, rfl, S⟩
        refine p_does (d_storeW S 0 rfl rfl (by first | exact bv_one _ | exact sv_one _ | exact iv_one _ | with_reducible assumption | (refine One.mem ?_; repeat (first | exact One.bv _ | exact One.sv _ | exact One.iv _ | exact One.nil | exact One.cat0 | refine One.cat1 ?_ ?_ | refine One.cons rfl ?_ | refine One.append ?_ ?_))) sz29 (by first | with_reducible assumption | (simp [cat, length_lbk, length_lback, length_lshown, length_join, length_ldig, length_zsum, hk]; done) | (simp [cat, length_lbk, length_lback, length_lshown, length_join, length_ldig, length_zsum, hk]; omega) | rfl) rfl rfl (by first | with_reducible assumption | (simp [cat, length_lbk, length_lback, length_lshown, length_join, length_ldig, length_zsum, hk]; done) | (simp [cat, length_lbk, length_lback, length_lshown, length_join, length_ldig, length_zsum, hk]; omega) | rfl)) rfl ?_
        intro _ w S
        refine p_nil (x_then (s_seq (s_plain ?_)))
        refine p_val (e_move (v := .slice _ _ _) rfl) rfl ?_
        refine p_val (e_move (v := .int _ _) rfl) rfl ?_
        refine p_does (d_call Try.func26 nm26 rfl rfl (l4bit_calls _ _ _ _ _ _ (Rd.take_bv (S.rdOld R rfl) (Nat.min_le_left n 200)) (by omega) (by omega))) rfl ?_
        rintro _ w ⟨rfl, hB⟩
        have S := S.below hB
        refine p_val (e_eql rfl rfl) rfl ?_
        refine p_nil (x_then ?_)
        refine s_cond rfl (fun hc60 => ?_) (fun hc60 => ?_)
        · refine s_seq (s_plain ?_)
          refine p_val (e_move (v := .slice _ _ _) rfl) rfl ?_
          refine p_val (e_sl_arr rfl Try.underlying29 sz5) rfl ?_
          refine p_does (d_append S 2 rfl rfl Try.underlying33 el5 rfl rfl (S.rdBytes 0 rfl rfl (by first | with_reducible assumption | (simp [cat, length_lbk, length_lback, length_lshown, length_join, length_ldig, length_zsum, hk]; done) | (simp [cat, length_lbk, length_lback, length_lshown, length_join, length_ldig, length_zsum, hk]; omega) | rfl)) (by first | exact bv_one _ | exact sv_one _ | exact iv_one _ | with_reducible assumption | (refine One.mem ?_; repeat (first | exact One.bv _ | exact One.sv _ | exact One.iv _ | exact One.nil | exact One.cat0 | refine One.cat1 ?_ ?_ | refine One.cons rfl ?_ | refine One.append ?_ ?_))) (by omega) (by unfold maxLen; omega)) rfl ?_
          rintro _ w ⟨k63, c63, rfl, S⟩
          refine p_val (e_assign (v := .slice _ _ _) rfl) rfl ?_
          refine p_nil (x_then (s_plain ?_))
          refine p_val (e_move (v := .slice _ _ _) rfl) rfl ?_
          refine p_val (e_move (v := .slice _ _ _) rfl) rfl ?_
          refine p_val (e_move (v := .int _ _) rfl) rfl ?_
          refine p_val (e_mul64 rfl rfl (by omega)) rfl ?_
          refine p_val (e_add64 rfl rfl (by omega)) rfl ?_
          refine p_val (e_move (v := .int _ _) rfl) rfl ?_
          refine p_val (e_mul64 rfl rfl (by omega)) rfl ?_
          refine p_val (e_add64 rfl rfl (by omega)) rfl ?_
          refine p_val (e_sl_lh (64 * g + 32) (64 * g + 64) rfl rfl rfl (by omega) (by omega) (by omega) (by omega) Try.underlying33 sz5) rfl ?_
          refine p_does (d_append S 2 rfl rfl Try.underlying33 el5 rfl rfl (Rd.drop_bv (Rd.take_bv (S.rdOld R2 rfl) (by omega)) (by omega) (by omega)) (by first | exact bv_one _ | exact sv_one _ | exact iv_one _ | with_reducible assumption | (refine One.mem ?_; repeat (first | exact One.bv _ | exact One.sv _ | exact One.iv _ | exact One.nil | exact One.cat0 | refine One.cat1 ?_ ?_ | refine One.cons rfl ?_ | refine One.append ?_ ?_))) (by omega) (by unfold maxLen; omega)) rfl ?_
          rintro _ w ⟨k73, c73, rfl, S⟩
          refine p_val (e_assign (v := .slice _ _ _) rfl) rfl ?_
          refine p_nil (x_in ?_)
          exact x_then ⟨_, rfl, _, _, _, _, _, upds_eq ⟨rfl, rfl, rfl, rfl, rfl, rfl, rfl, trivial⟩, by first | omega | rfl | with_reducible assumption | (simp; done) | (simp; omega), by rw [half_eq, oth_eq, ← bv_append, ← bv_append]; conv => rhs; unfold backB; rw [if_pos (show lbit (ldig (l.take (min n 200))) g = 0 by omega), ← List.append_assoc], S.pk [2, 3, 4] rfl⟩
        · refine s_seq (s_plain ?_)
          refine p_val (e_move (v := .slice _ _ _) rfl) rfl ?_
          refine p_val (e_move (v := .slice _ _ _) rfl) rfl ?_
          refine p_val (e_move (v := .int _ _) rfl) rfl ?_
          refine p_val (e_mul64 rfl rfl (by omega)) rfl ?_
          refine p_val (e_add64 rfl rfl (by omega)) rfl ?_
          refine p_val (e_move (v := .int _ _) rfl) rfl ?_
          refine p_val (e_mul64 rfl rfl (by omega)) rfl ?_
          refine p_val (e_add64 rfl rfl (by omega)) rfl ?_
          refine p_val (e_sl_lh (64 * g + 32) (64 * g + 64) rfl rfl rfl (by omega) (by omega) (by omega) (by omega) Try.underlying33 sz5) rfl ?_
          refine p_does (d_append S 2 rfl rfl Try.underlying33 el5 rfl rfl (Rd.drop_bv (Rd.take_bv (S.rdOld R2 rfl) (by omega)) (by omega) (by omega)) (by first | exact bv_one _ | exact sv_one _ | exact iv_one _ | with_reducible assumption | (refine One.mem ?_; repeat (first | exact One.bv _ | exact One.sv _ | exact One.iv _ | exact One.nil | exact One.cat0 | refine One.cat1 ?_ ?_ | refine One.cons rfl ?_ | refine One.append ?_ ?_))) (by omega) (by unfold maxLen; omega)) rfl ?_
          rintro _ w ⟨k83, c83, rfl, S⟩
          refine p_val (e_assign (v := .slice _ _ _) rfl) rfl ?_
          refine p_nil (x_then (s_plain ?_))
          refine p_val (e_move (v := .slice _ _ _) rfl) rfl ?_
          refine p_val (e_sl_arr rfl Try.underlying29 sz5) rfl ?_
          refine p_does (d_append S 2 rfl rfl Try.underlying33 el5 rfl rfl (S.rdBytes 0 rfl rfl (by first | with_reducible assumption | (simp [cat, length_lbk, length_lback, length_lshown, length_join, length_ldig, length_zsum, hk]; done) | (simp [cat, length_lbk, length_lback, length_lshown, length_join, length_ldig, length_zsum, hk]; omega) | rfl)) (by first | exact bv_one _ | exact sv_one _ | exact iv_one _ | with_reducible assumption | (refine One.mem ?_; repeat (first | exact One.bv _ | exact One.sv _ | exact One.iv _ | exact One.nil | exact One.cat0 | refine One.cat1 ?_ ?_ | refine One.cons rfl ?_ | refine One.append ?_ ?_))) (by omega) (by unfold maxLen; omega)) rfl ?_
          rintro _ w ⟨k86, c86, rfl, S⟩
          refine p_val (e_assign (v := .slice _ _ _) rfl) rfl ?_
          refine p_nil (x_in ?_)
          exact x_then ⟨_, rfl, _, _, _, _, _, upds_eq ⟨rfl, rfl, rfl, rfl, rfl, rfl, rfl, trivial⟩, by first | omega | rfl | with_reducible assumption | (simp; done) | (simp; omega), by rw [half_eq, oth_eq, ← bv_append, ← bv_append]; conv => rhs; unfold backB; rw [if_neg (show ¬ lbit (ldig (l.take (min n 200))) g = 0 by omega), ← List.append_assoc], S.pk [2, 3, 4] rfl⟩
      · rintro f w ⟨u, Kk9, Ck9, m, xs, rfl, rfl, rfl, S⟩
        refine x_then (s_plain ?_)
        refine p_val (e_move (v := .int _ _) rfl) rfl ?_
        refine p_val (e_add64 rfl rfl (by omega)) rfl ?_
        refine p_val (e_assign (v := .int _ _) rfl) rfl ?_
        refine p_nil ?_
        refine x_round (g + 1) _ rfl ⟨_, _, _, _, _, upds_eq ⟨rfl, rfl, rfl, rfl, rfl, rfl, rfl, trivial⟩, by first | omega | rfl | with_reducible assumption | (simp; done) | (simp; omega), by first | omega | rfl | with_reducible assumption | (simp; done) | (simp; omega), by first | omega | rfl | with_reducible assumption | (simp; done) | (simp; omega), S⟩ (by omega)
    · refine s_exit (x_then_exit (x_then_exit (x_in_same (x_then (s_seq (s_plain ?_))))))
      obtain rfl : g = 64 := by omega
      have hbl := length_backB (d := ldig (l.take (min n 200))) hg2 64 (Nat.le_refl _)
      refine p_val (e_move (v := .slice _ _ _) rfl) rfl ?_
      refine p_does (d_lit1 S Try.underlying90 sz33 zv33 rfl (vs := [.slice _ _ _]) rfl rfl rfl (by decide)) rfl ?_
      rintro _ w ⟨b88, rfl, S⟩
      refine p_does (d_call Try.func19 nm19 rfl rfl (Ret.mono (R' := fun v w' => v = .agg (bv (lback (l.take (min n 200)) g2)).toArray ∧ Below _ _ w') (join_calls _ 13 _ _ [_] (Parts.one (S.rdRw 0 rfl rfl) (S.rdRw 1 rfl rfl)) (by simp [joinB, len4, hbl]) (by simp)) (fun v w' ⟨hv, hB⟩ => ⟨by rw [hv]; unfold lback; rfl, hB⟩))) rfl ?_
      rintro _ w ⟨rfl, hB⟩
      have S := S.below hB
      refine p_does (d_allocA S zvS) rfl ?_
      rintro _ w ⟨b13, rfl, S⟩
      refine p_does (d_storeW S 0 rfl rfl (by first | exact bv_one _ | exact sv_one _ | exact iv_one _ | with_reducible assumption | (refine One.mem ?_; repeat (first | exact One.bv _ | exact One.sv _ | exact One.iv _ | exact One.nil | exact One.cat0 | refine One.cat1 ?_ ?_ | refine One.cons rfl ?_ | refine One.append ?_ ?_))) sz29 (by first | with_reducible assumption | (simp [cat, length_lbk, length_lback, length_lshown, length_join, length_ldig, length_zsum, hk]; done) | (simp [cat, length_lbk, length_lback, length_lshown, length_join, length_ldig, length_zsum, hk]; omega) | rfl) rfl rfl (by first | with_reducible assumption | (simp [cat, length_lbk, length_lback, length_lshown, length_join, length_ldig, length_zsum, hk]; done) | (simp [cat, length_lbk, length_lback, length_lshown, length_join, length_ldig, length_zsum, hk]; omega) | rfl)) rfl ?_
      intro _ w S
      refine p_nil (x_then (s_seq ?_))
      refine s_cutK (ks := [some b13, some b88, Kk9, some b7, some b5]) (ps := [Ex _ _, Rw _ _ _ _ _, Rw _ _ _ _ _, Ex _ _, Ex _ _]) [] trivial S (fun keep ks ps f' w' => ∃ u bb, f' = upds u ((6, .bool bb) :: keep) ∧ (bb = true ↔ True) ∧ St w0 w' [] ks ps) ?_ ?_
      · refine s_drawK (ks := [some b13, some b88, Kk9, some b7, some b5]) (ps := [Ex _ _, Rw _ _ _ _ _, Rw _ _ _ _ _, Ex _ _, Ex _ _]) S [(true, 0), (true, 1), (true, 2), (true, 3), (true, 4), (true, 5), (true, 6), (true, 7), (true, 8), (true, 9), (true, 10), (true, 12), (true, 13), (true, 14), (false, 11), (true, 15), (true, 16), (true, 17), (false, 18), (true, 19)] [20] [20] mixed (by kernel_rfl) (by repeat (first | exact Calm.post _ _ _ | refine Calm.then ?_ _ | refine Calm.inB ?_ _)) (fun hS => ?_)
        have S := S.drew
        refine q_val (fun w hS => e_loadW 3 rfl ag29 sz29 hS rfl rfl (by first | with_reducible assumption | (simp [cat, length_lbk, length_lback, length_lshown, length_join, length_ldig, length_zsum, hk]; done) | (simp [cat, length_lbk, length_lback, length_lshown, length_join, length_ldig, length_zsum, hk]; omega) | rfl)) rfl hS ?_
        refine q_val (fun w hS => e_loadW 0 rfl ag29 sz29 hS rfl rfl (by first | with_reducible assumption | (simp [cat, length_lbk, length_lback, length_lshown, length_join, length_ldig, length_zsum, hk]; done) | (simp [cat, length_lbk, length_lback, length_lshown, length_join, length_ldig, length_zsum, hk]; omega) | rfl)) rfl hS ?_
        refine q_valB (fun w hS => EqT.sum eq29 gd29 rfl rfl (by first | with_reducible assumption | (simp [cat, length_lbk, length_lback, length_lshown, length_join, length_ldig, length_zsum, hk]; done) | (simp [cat, length_lbk, length_lback, length_lshown, length_join, length_ldig, length_zsum, hk]; omega) | rfl) (by first | with_reducible assumption | (simp [cat, length_lbk, length_lback, length_lshown, length_join, length_ldig, length_zsum, hk]; done) | (simp [cat, length_lbk, length_lback, length_lshown, length_join, length_ldig, length_zsum, hk]; omega) | rfl)) rfl hS (fun hg92 => ?_) (fun hg92 => ?_)
        · refine q_val (fun w hS => e_move (v := .bool _) rfl) rfl hS ?_
          refine qg_val rfl rfl rfl rfl rfl (fun w hS => e_move (v := .int _ _) rfl) hS ?_
          refine qg_valB rfl rfl rfl rfl rfl (fun w hS => e_eql rfl rfl) hS (fun hg95 => ?_) (fun hg95 => ?_)
          · refine q_val (fun w hS => e_pick_t rfl rfl) rfl hS ?_
            refine q_val (fun w hS => e_move (v := .bool _) rfl) rfl hS ?_
            refine qg_val rfl rfl rfl rfl rfl (fun w hS => e_loadW 4 rfl ag29 sz29 hS rfl rfl (by first | with_reducible assumption | (simp [cat, length_lbk, length_lback, length_lshown, length_join, length_ldig, length_zsum, hk]; done) | (simp [cat, length_lbk, length_lback, length_lshown, length_join, length_ldig, length_zsum, hk]; omega) | rfl)) hS ?_
            refine qg_val rfl rfl rfl rfl rfl (fun w hS => e_move (v := .slice _ _ _) rfl) hS ?_
            refine qg_val rfl rfl rfl rfl rfl (fun w hS => e_move (v := .slice _ _ _) rfl) hS ?_
            refine qg_val rfl rfl rfl rfl rfl (fun w hS => e_loadW 4 rfl ag29 sz29 hS rfl rfl (by first | with_reducible assumption | (simp [cat, length_lbk, length_lback, length_lshown, length_join, length_ldig, length_zsum, hk]; done) | (simp [cat, length_lbk, length_lback, length_lshown, length_join, length_ldig, length_zsum, hk]; omega) | rfl)) hS ?_
            refine qg_val rfl rfl rfl rfl rfl (fun w hS => e_loadW 0 rfl ag29 sz29 hS rfl rfl (by first | with_reducible assumption | (simp [cat, length_lbk, length_lback, length_lshown, length_join, length_ldig, length_zsum, hk]; done) | (simp [cat, length_lbk, length_lback, length_lshown, length_join, length_ldig, length_zsum, hk]; omega) | rfl)) hS ?_
            refine qg_val rfl rfl rfl rfl rfl (fun w hS => EqT.sum eq29 gd29 rfl rfl (by first | with_reducible assumption | (simp [cat, length_lbk, length_lback, length_lshown, length_join, length_ldig, length_zsum, hk]; done) | (simp [cat, length_lbk, length_lback, length_lshown, length_join, length_ldig, length_zsum, hk]; omega) | rfl) (by first | with_reducible assumption | (simp [cat, length_lbk, length_lback, length_lshown, length_join, length_ldig, length_zsum, hk]; done) | (simp [cat, length_lbk, length_lback, length_lshown, length_join, length_ldig, length_zsum, hk]; omega) | rfl)) hS ?_
            refine qg_does rfl rfl rfl rfl rfl (d_call Try.func32 nm32 rfl rfl (verify_gen _ _ _ _ _ _ _ _ _ _ (by first | with_reducible assumption | (simp [cat, length_lbk, length_lback, length_lshown, length_join, length_ldig, length_zsum, hk]; done) | (simp [cat, length_lbk, length_lback, length_lshown, length_join, length_ldig, length_zsum, hk]; omega) | rfl) (Rd.take_bv (S.rdOld R rfl) (Nat.min_le_left n 200)) (by omega) (S.rdOld R2 rfl) (by omega))) ?_
            rintro _ w ⟨rfl, hB⟩
            have S := S.below hB
            have hS := S.pk [0, 1, 2, 3, 4] rfl
            refine ⟨hS, ?_⟩
            refine qg_valb rfl rfl rfl rfl rfl (fun w hS => e_eqlB rfl rfl Try.underlying4) hS (fun hg105 => ?_) (fun hg105 => ?_)
            · refine q_val (fun w hS => e_pick_t rfl rfl) rfl hS ?_
              refine q_val (fun w hS => e_move (v := .bool _) rfl) rfl hS ?_
              refine qg_does rfl rfl rfl rfl rfl (d_call Try.func34 nm34 rfl rfl (l4awake_calls _)) ?_
              rintro _ w ⟨rfl, hB⟩
              have S := S.below hB
              have hS := S.pk [0, 1, 2, 3, 4] rfl
              refine ⟨hS, ?_⟩
              refine q_val (fun w hS => e_pick_t rfl rfl) rfl hS ?_
              refine q_nil ?_
              refine p_val (e_assign (v := .bool _) rfl) rfl ?_
              exact p_nil (x_then ⟨_, rfl, _, _, upds_eq ⟨rfl, trivial⟩, by first | (simp only [decide_eq_true_eq, eq_self, true_iff, iff_true, iff_false, Bool.false_eq_true, false_iff, ge_iff_le, gt_iff_lt, true_and, and_true, false_and, and_false, true_or, or_true, false_or, or_false, not_true_eq_false, not_false_eq_true]; omega) | simp | omega | simp_all, S⟩)
            · exact False.elim (dec_ne ⟨fun h => h.2.symm, fun h => ⟨rfl, h.symm⟩⟩ hg105)
          · exact False.elim (hg95 rfl)
        · exact False.elim (hg92 (if_pos rfl))
      · rintro f w ⟨u, b6, rfl, hb6, S⟩
        refine x_then (s_ret ?_)
        exact post1 (v := .bool _) Try.results5 rfl (⟨by rw [hb6.2 trivial], S.to_below⟩)
end Go.Proofs.Ytdhfiamgmokfbaa
