/- SHA-256's padding. It proves no statement by itself. -/
import Derived.Test.YtdhfiamgmokfbaaSha3
import Derived.Test.YtdhfiamgmokfbaaMore
set_option linter.unusedSimpArgs false
set_option linter.unusedVariables false
set_option maxRecDepth 100000
set_option maxHeartbeats 1000000
namespace Go.Proofs.Ytdhfiamgmokfbaa
open Go Go.RowKit E
theorem padded_calls (w0 : World) (A : Option Addr) (c0 : Nat) (l : List Nat) (R : Rd w0 1 A l.length (bv l)) (hl : l.length ≤ 1099511627776) :
    Ret Try.prog 99 [.slice A l.length c0] w0 fun v w' => ∃ k c, v = .slice (at_ k) (pad l).length c ∧ St w0 w' [] [k] [Rw 5 1 (pad l).length c (bv (pad l))] := by
  have hpz : padZ l.length ≤ 63 := by unfold padZ; omega
  refine enter Try.func99 rfl Try.ntmps99 (Nat.le_of_ble_eq_true rfl) ?_
  have S := St.init w0
  refine s_seq (s_plain ?_)
  refine p_val (e_assign (v := .slice _ _ _) rfl) rfl ?_
  refine p_nil (x_then (s_seq (s_plain ?_)))
  refine p_val (e_move (v := .slice _ _ _) rfl) rfl ?_
  refine p_val (e_len rfl Try.underlying33) rfl ?_
  refine p_val (e_convU64 rfl Try.underlying3 (by simp) Try.underlying150) rfl ?_
  refine p_val (e_mulU64 rfl rfl) rfl ?_
  refine p_val (e_assign (v := .int _ _) rfl) rfl ?_
  refine p_nil (x_then (s_seq (s_plain ?_)))
  refine p_val (e_move (v := .slice _ _ _) rfl) rfl ?_
  have S := S.addNil 5 1
  refine p_does (d_append S 0 rfl rfl Try.underlying33 el5 rfl rfl (S.rdOld R rfl) (bv_one _) (by omega) (by unfold maxLen; omega)) rfl ?_
  rintro _ w ⟨k11, c11, rfl, S⟩
  refine p_does (d_litB S Try.underlying33 sz5 zv5 rfl (l := [_]) rfl rfl (by decide)) rfl ?_
  rintro _ w ⟨b2, rfl, S⟩
  refine p_does (d_append S 1 rfl rfl Try.underlying33 el5 rfl rfl (S.rdRw 0 rfl rfl) (bv_one _) (by omega) (by unfold maxLen; omega)) rfl ?_
  rintro _ w ⟨k13, c13, rfl, S⟩
  refine p_val (e_assign (v := .slice _ _ _) rfl) rfl ?_
  refine p_nil (x_then (s_seq (s_block ?_)))
  refine s_loop (α := Nat) (fun g f' w' => ∃ u k c m, f' = upds u [(3, .int .u64 ((l.length % 18446744073709551616 * 8 % 18446744073709551616 : Nat) : Int)), (4, .slice (at_ k) m c)] ∧ g ≤ padZ l.length ∧ m = l.length + 1 + g ∧ St w0 w' [] [k] [Rw 5 1 m c (bv (padTo l g))]) (fun g => padZ l.length - g) (0) (⟨_, _, _, _, upds_eq ⟨rfl, rfl, trivial⟩, Nat.zero_le _, by omega, S.tail.as1 (by simp [padTo, bv])⟩) ?_
  rintro j f w ⟨u, k, c, m, rfl, hj, hm, S⟩
  refine s_seq (s_seq (s_plain ?_))
  refine p_val (e_move (v := .slice _ _ _) rfl) rfl ?_
  refine p_val (e_len rfl Try.underlying33) rfl ?_
  refine p_val (e_rem64 rfl rfl (by omega)) rfl ?_
  refine p_val (e_neq rfl rfl) rfl ?_
  refine p_nil (x_then ?_)
  refine s_cond rfl (fun hc => ?_) (fun hc => ?_)
  · refine s_skip (x_then (s_block (s_plain ?_)))
    refine p_val (e_move (v := .slice _ _ _) rfl) rfl ?_
    refine p_does (d_litB S Try.underlying33 sz5 zv5 rfl (l := [_]) rfl rfl (by decide)) rfl ?_
    rintro _ w ⟨b4, rfl, S⟩
    refine p_does (d_append S 1 rfl rfl Try.underlying33 el5 rfl rfl (S.rdRw 0 rfl rfl) (bv_one _) (by omega) (by unfold maxLen; omega)) rfl ?_
    rintro _ w ⟨k20, c20, rfl, S⟩
    refine p_val (e_assign (v := .slice _ _ _) rfl) rfl ?_
    refine p_nil (x_in ?_)
    refine x_round (j + 1) _ rfl ⟨_, _, _, _, upds_eq ⟨rfl, rfl, trivial⟩, by unfold padZ at hj ⊢; omega, by omega, S.tail.as1 (by rw [← bv_append, padTo_succ])⟩ (by have hz : j + 1 ≤ padZ l.length := (by unfold padZ at hj ⊢; omega); omega)
  · refine s_exit (x_then_exit (x_then_exit (x_in_same (x_then (s_seq (s_seq (s_plain ?_)))))))
    refine p_val (e_assign (v := .int _ _) rfl) rfl ?_
    refine p_nil (x_then (s_block ?_))
    refine s_loop (α := Nat) (fun g f' w' => ∃ u k c m, f' = upds u [(3, .int .u64 ((l.length % 18446744073709551616 * 8 % 18446744073709551616 : Nat) : Int)), (4, .slice (at_ k) m c), (5, .int .i64 (56 - 8 * (g : Int)))] ∧ g ≤ 8 ∧ m = l.length + 1 + padZ l.length + g ∧ St w0 w' [] [k] [Rw 5 1 m c (bv (padTo l (padZ l.length) ++ len8 (l.length % 18446744073709551616 * 8 % 18446744073709551616) g))]) (fun g => 8 - g) (0) (⟨_, _, _, _, upds_eq ⟨rfl, rfl, rfl, trivial⟩, by omega, by unfold padZ at hj ⊢; omega, S.as1 (by rw [show j = padZ l.length by unfold padZ at hj ⊢; omega]; simp [len8])⟩) ?_
    rintro q f w ⟨u, k, c, m, rfl, hq, hm, S⟩
    refine s_seq (s_seq (s_plain ?_))
    refine p_val (e_move (v := .int _ _) rfl) rfl ?_
    refine p_val (e_geq rfl rfl) rfl ?_
    refine p_nil (x_then ?_)
    refine s_cond rfl (fun hc => ?_) (fun hc => ?_)
    · refine s_skip (x_then (s_seq (s_block (s_plain ?_))))
      refine p_val (e_move (v := .slice _ _ _) rfl) rfl ?_
      refine p_val (e_move (v := .int _ _) rfl) rfl ?_
      refine p_val (e_move (v := .int _ _) rfl) rfl ?_
      refine p_val (e_shr64 (56 - 8 * q) rfl (show Value.int .i64 (56 - 8 * (q : Int)) = .int .i64 ((56 - 8 * q : Nat) : Int) from congrArg _ (by omega)) (by show 56 - 8 * q ≤ 64; omega)) rfl ?_
      refine p_val (e_conv8 rfl Try.underlying150 (by simp) Try.underlying5) rfl ?_
      refine p_does (d_litB S Try.underlying33 sz5 zv5 rfl (l := [_]) rfl rfl (by decide)) rfl ?_
      rintro _ w ⟨b5, rfl, S⟩
      refine p_does (d_append S 1 rfl rfl Try.underlying33 el5 rfl rfl (S.rdRw 0 rfl rfl) (bv_one _) (by omega) (by unfold maxLen; omega)) rfl ?_
      rintro _ w ⟨k31, c31, rfl, S⟩
      refine p_val (e_assign (v := .slice _ _ _) rfl) rfl ?_
      refine p_nil (x_in (x_then (s_plain ?_)))
      refine p_val (e_move (v := .int _ _) rfl) rfl ?_
      refine p_val (e_sub64 rfl rfl (by omega)) rfl ?_
      refine p_val (e_assign (v := .int _ _) rfl) rfl ?_
      refine p_nil ?_
      refine x_round (q + 1) _ rfl ⟨_, _, _, _, upds_eq ⟨rfl, rfl, congrArg (Value.int .i64) (by omega), trivial⟩, by omega, by omega, S.tail.as1 (by rw [← bv_append, List.append_assoc]; rfl)⟩ (by omega)
    · refine s_exit (x_then_exit (x_then_exit (x_in_same (x_then (s_seq (s_plain ?_))))))
      refine p_val (e_move (v := .slice _ _ _) rfl) rfl ?_
      refine p_val (e_assign (v := .slice _ _ _) rfl) rfl ?_
      refine p_nil (x_then (s_ret ?_))
      exact post1 Try.results99 rfl (by obtain rfl : q = 8 := (by omega); obtain rfl : m = (pad l).length := (by rw [length_pad]; omega); exact ⟨_, _, rfl, S⟩)
end Go.Proofs.Ytdhfiamgmokfbaa
