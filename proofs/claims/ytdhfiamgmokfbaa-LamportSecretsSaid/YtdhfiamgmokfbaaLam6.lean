/- Verifying, and that a signature leads back to its key. It proves no statement by itself. -/
import Derived.Test.YtdhfiamgmokfbaaLam5
set_option linter.unusedSimpArgs false
set_option linter.unusedVariables false
set_option maxRecDepth 100000
set_option maxHeartbeats 2000000
namespace Go.Proofs.Ytdhfiamgmokfbaa
open Go Go.RowKit E
theorem lback_yes (w0 : World) (A A2 : Option Addr) (n c0 n2 cc : Nat) (l g2 : List Nat) (R : Rd w0 1 A n (bv l)) (hn : n ≤ 1099511620000) (R2 : Rd w0 1 A2 n2 (bv g2)) (hcc : n2 ≤ cc) (h4 : n2 = 4096) :
    Ret Try.prog 30 [.slice A n c0, .slice A2 n2 cc] w0 fun v w' => v = .tuple #[.agg (bv (lback l g2)).toArray, .int .i64 0] ∧ Below w0.heap.size w0 w' :=
  (lback_calls w0 A A2 n c0 n2 cc l g2 R hn R2 hcc).mono fun v w' ⟨hv, hB⟩ => ⟨by rw [hv, if_pos h4], hB⟩
theorem lback_no (w0 : World) (A A2 : Option Addr) (n c0 n2 cc : Nat) (l g2 : List Nat) (R : Rd w0 1 A n (bv l)) (hn : n ≤ 1099511620000) (R2 : Rd w0 1 A2 n2 (bv g2)) (hcc : n2 ≤ cc) (h4 : ¬ n2 = 4096) :
    Ret Try.prog 30 [.slice A n c0, .slice A2 n2 cc] w0 fun v w' => v = .tuple #[.agg (bv lzeros).toArray, .int .i64 11] ∧ Below w0.heap.size w0 w' :=
  (lback_calls w0 A A2 n c0 n2 cc l g2 R hn R2 hcc).mono fun v w' ⟨hv, hB⟩ => ⟨by rw [hv, if_neg h4], hB⟩
theorem half_lsig (s l : List Nat) (i : Nat) (hi : i < 64) : half (lsig s l) i = sigS s (ldig l) i ∧ oth (lsig s l) i = sigO s (ldig l) i := by
  have key : ∀ n, i < n → ∀ t, (sigB s (ldig l) n ++ t).drop (64 * i) = sigS s (ldig l) i ++ sigO s (ldig l) i ++ ((sigB s (ldig l) n).drop (64 * i + 64) ++ t) := by
    intro n
    induction n with
    | zero => intro h; omega
    | succ n ih =>
      intro h t
      rcases Nat.lt_or_ge i n with h' | h'
      · have e1 : sigB s (ldig l) (n + 1) = sigB s (ldig l) n ++ (sigS s (ldig l) n ++ sigO s (ldig l) n) := by rw [sigB, List.append_assoc]
        rw [e1, List.append_assoc, ih h', List.drop_append_of_le_length (by rw [length_sigB]; omega)]
        simp only [List.append_assoc]
      · obtain rfl : i = n := by omega
        have e0 : (sigB s (ldig l) i).length = 64 * i := length_sigB s (ldig l) i
        have e2 : (sigB s (ldig l) (i + 1)).drop (64 * i + 64) = [] := List.drop_of_length_le (by rw [length_sigB]; omega)
        rw [e2, sigB, List.append_assoc, List.append_assoc, ← e0, List.drop_left, List.nil_append, List.append_assoc]
  have h1 := key 64 hi []
  rw [List.append_nil] at h1
  have hS := length_sigS s (ldig l) i
  have hO := length_sigO s (ldig l) i
  refine ⟨?_, ?_⟩
  · show ((sigB s (ldig l) 64).drop (64 * i)).take 32 = _
    rw [h1, List.append_assoc, List.take_append_of_le_length (by omega), List.take_of_length_le (by omega)]
  · show ((sigB s (ldig l) 64).drop (64 * i + 32)).take (64 * i + 64 - (64 * i + 32)) = _
    rw [← List.drop_drop, h1, List.append_assoc, List.drop_append_of_le_length (by omega), List.drop_of_length_le (by omega), List.nil_append,
      List.take_append_of_le_length (by omega), List.take_of_length_le (by omega)]
theorem back_sign (s l : List Nat) : lback l (lsig s l) = lpub s := by
  unfold lback lpub
  have : ∀ i, i ≤ 64 → backB (ldig l) (lsig s l) i = pubB s i := by
    intro i
    induction i with
    | zero => intro _; rfl
    | succ i ih =>
      intro h
      obtain ⟨h1, h2⟩ := half_lsig s l i (by omega)
      have hb := lbit_lt (ldig l) i
      rw [backB, pubB, ih (by omega), h1, h2]
      simp only [pubI, List.nil_append]
      have e0 : ((0 : Nat) : Int) % 2 = 0 := by decide
      have e1 : ((1 : Nat) : Int) % 2 = 1 := by decide
      rw [e0, e1]
      split
      · rename_i h0
        unfold sigS sigO
        rw [h0]
        rfl
      · rename_i h0
        have h1 : lbit (ldig l) i = 1 := by omega
        unfold sigS sigO
        rw [h1]
        rfl
  rw [this 64 (Nat.le_refl _)]
theorem verify_yes (w0 : World) (key : List Nat) (A A2 : Option Addr) (n c0 n2 cc : Nat) (l g2 : List Nat) (hk : key.length = 32) (R : Rd w0 1 A n (bv l)) (hn : n ≤ 1099511620000) (R2 : Rd w0 1 A2 n2 (bv g2)) (hcc : n2 ≤ cc) (h4 : n2 = 4096) :
    Ret Try.prog 32 [.agg (bv key).toArray, .slice A n c0, .slice A2 n2 cc] w0 fun v w' => v = .bool (decide (lback l g2 = key)) ∧ Below w0.heap.size w0 w' := by
  refine enter Try.func32 rfl Try.ntmps32 (Nat.le_of_ble_eq_true rfl) ?_
  have S := St.init w0
  refine s_seq (s_plain ?_)
  refine p_does (d_boxA S rfl) rfl ?_
  rintro _ w ⟨b1, rfl, S⟩
  refine p_val (e_assign (v := .bool _) rfl) rfl ?_
  refine p_nil (x_then (s_seq (s_plain ?_)))
  refine p_val (e_move (v := .slice _ _ _) rfl) rfl ?_
  refine p_val (e_move (v := .slice _ _ _) rfl) rfl ?_
  refine p_does (d_call Try.func30 nm30 rfl rfl (lback_yes _ A A2 n c0 n2 cc l g2 (S.rdOld R rfl) hn (S.rdOld R2 rfl) hcc h4)) rfl ?_
  rintro _ w ⟨rfl, hB⟩
  have S := S.below hB
  refine p_val (e_move (v := .tuple _) rfl) rfl ?_
  refine p_val (e_extract rfl rfl) rfl ?_
  refine p_val (e_extract rfl rfl) rfl ?_
  refine p_does (d_allocA S zv29) rfl ?_
  rintro _ w ⟨b2, rfl, S⟩
  refine p_does (d_storeW S 0 rfl rfl (bv_one _) sz29 (by simp [length_lback]) rfl rfl (by rfl)) rfl ?_
  intro _ w S
  refine p_val (e_assign (v := .int _ _) rfl) rfl ?_
  refine p_nil (x_then (s_seq ?_))
  refine s_cut (fun f f' w' => ∃ (j15 j16 j17 j18 j19 j20 j21 : Value) (b : Bool), f' = updo (updo (updo (updo (updo (updo (updo (updo f (some 15) j15) (some 16) j16) (some 17) j17) (some 18) j18) (some 19) j19) (some 20) j20) (some 21) j21) (some 6) (.bool b) ∧ (b = true ↔ lback l g2 = key) ∧ Below w0.heap.size w0 w') ?_ ?_
  · refine s_plain ?_
    refine p_val (e_move (v := .int _ _) rfl) rfl ?_
    refine p_valB (e_eql rfl rfl) rfl (fun hg2 => ?_) (fun hg2 => ?_)
    · refine p_val (e_move (v := .bool _) rfl) rfl ?_
      refine pg_val rfl rfl rfl rfl rfl (e_loadEx rfl ag29 sz29 S 0 rfl rfl (by simp [length_lback])) ?_
      refine pg_val rfl rfl rfl rfl rfl (e_loadEx rfl ag29 sz29 S 1 rfl rfl (by simp [hk])) ?_
      refine pg_val rfl rfl rfl rfl rfl (EqT.sum eq29 gd29 rfl rfl (length_lback _ _) (hk)) ?_
      refine p_val (e_pick_t rfl rfl) rfl ?_
      refine p_val (e_assign (v := .bool _) rfl) rfl ?_
      exact p_nil (x_then ⟨_, rfl, _, _, _, _, _, _, _, _, rfl, by first | (simp only [decide_eq_true_eq, eq_self, true_iff, iff_true, iff_false, Bool.false_eq_true, false_iff, ge_iff_le, gt_iff_lt]; omega) | simp | omega, S.to_below⟩)
    · exact (absurd rfl hg2)
  · rintro _ w ⟨j15, j16, j17, j18, j19, j20, j21, b901, rfl, hb1, S⟩
    refine x_then (s_ret ?_)
    exact post1 (v := .bool _) Try.results32 rfl ⟨by congr 1; exact (Bool.eq_iff_iff.2 (hb1.trans decide_eq_true_iff.symm)), S⟩
theorem verify_no (w0 : World) (key : List Nat) (A A2 : Option Addr) (n c0 n2 cc : Nat) (l g2 : List Nat) (hk : key.length = 32) (R : Rd w0 1 A n (bv l)) (hn : n ≤ 1099511620000) (R2 : Rd w0 1 A2 n2 (bv g2)) (hcc : n2 ≤ cc) (h4 : ¬ n2 = 4096) :
    Ret Try.prog 32 [.agg (bv key).toArray, .slice A n c0, .slice A2 n2 cc] w0 fun v w' => v = .bool false ∧ Below w0.heap.size w0 w' := by
  refine enter Try.func32 rfl Try.ntmps32 (Nat.le_of_ble_eq_true rfl) ?_
  have S := St.init w0
  refine s_seq (s_plain ?_)
  refine p_does (d_boxA S rfl) rfl ?_
  rintro _ w ⟨b1, rfl, S⟩
  refine p_val (e_assign (v := .bool _) rfl) rfl ?_
  refine p_nil (x_then (s_seq (s_plain ?_)))
  refine p_val (e_move (v := .slice _ _ _) rfl) rfl ?_
  refine p_val (e_move (v := .slice _ _ _) rfl) rfl ?_
  refine p_does (d_call Try.func30 nm30 rfl rfl (lback_no _ A A2 n c0 n2 cc l g2 (S.rdOld R rfl) hn (S.rdOld R2 rfl) hcc h4)) rfl ?_
  rintro _ w ⟨rfl, hB⟩
  have S := S.below hB
  refine p_val (e_move (v := .tuple _) rfl) rfl ?_
  refine p_val (e_extract rfl rfl) rfl ?_
  refine p_val (e_extract rfl rfl) rfl ?_
  refine p_does (d_allocA S zv29) rfl ?_
  rintro _ w ⟨b2, rfl, S⟩
  refine p_does (d_storeW S 0 rfl rfl (bv_one _) sz29 (by rfl) rfl rfl (by rfl)) rfl ?_
  intro _ w S
  refine p_val (e_assign (v := .int _ _) rfl) rfl ?_
  refine p_nil (x_then (s_seq ?_))
  refine s_cut (fun f f' w' => ∃ (j15 j16 j17 j18 j19 j20 j21 : Value) (b : Bool), f' = updo (updo (updo (updo (updo (updo (updo (updo f (some 15) j15) (some 16) j16) (some 17) j17) (some 18) j18) (some 19) j19) (some 20) j20) (some 21) j21) (some 6) (.bool b) ∧ (b = true ↔ False) ∧ Below w0.heap.size w0 w') ?_ ?_
  · refine s_plain ?_
    refine p_val (e_move (v := .int _ _) rfl) rfl ?_
    refine p_valB (e_eql rfl rfl) rfl (fun hg2 => ?_) (fun hg2 => ?_)
    · exact (absurd hg2 (by decide))
    · refine p_val (e_move (v := .bool _) rfl) rfl ?_
      refine p_no rfl rfl rfl rfl rfl ?_
      refine p_no rfl rfl rfl rfl rfl ?_
      refine p_no rfl rfl rfl rfl rfl ?_
      refine p_val (e_pick_f rfl rfl) rfl ?_
      refine p_val (e_assign (v := .bool _) rfl) rfl ?_
      exact p_nil (x_then ⟨_, rfl, _, _, _, _, _, _, _, _, rfl, by first | (simp only [decide_eq_true_eq, eq_self, true_iff, iff_true, iff_false, Bool.false_eq_true, false_iff, ge_iff_le, gt_iff_lt]; omega) | simp | omega, S.to_below⟩)
  · rintro _ w ⟨j15, j16, j17, j18, j19, j20, j21, b901, rfl, hb1, S⟩
    refine x_then (s_ret ?_)
    exact post1 (v := .bool _) Try.results32 rfl ⟨by congr 1; exact (Bool.eq_false_iff.2 fun h => hb1.1 h), S⟩
end Go.Proofs.Ytdhfiamgmokfbaa
