/- Sums of parts. It proves no statement by itself. -/
import Derived.Test.YtdhfiamgmokfbaaMore2
import Derived.Test.YtdhfiamgmokfbaaSha5
set_option linter.unusedSimpArgs false
set_option linter.unusedVariables false
set_option maxRecDepth 100000
set_option maxHeartbeats 1000000
namespace Go.Proofs.Ytdhfiamgmokfbaa
open Go Go.RowKit E
theorem join_calls (w0 : World) (tag : Nat) (A : Option Addr) (c0 : Nat) (ls : List (List Nat)) (R : Parts w0 A ls) (hl : (joinB tag ls ls.length).length ≤ 1099511627776) (hn : ls.length ≤ 1000000) :
    Ret Try.prog 19 [.int .u8 (tag : Int), .slice A ls.length c0] w0 fun v w' => v = .agg (bv (join tag ls)).toArray ∧ Below w0.heap.size w0 w' := by
  obtain ⟨vs, RA, hvs⟩ := R
  refine enter Try.func19 rfl Try.ntmps19 (Nat.le_of_ble_eq_true rfl) ?_
  have S := St.init w0
  refine s_seq (s_plain ?_)
  refine p_does (d_allocA S zv29) rfl ?_
  rintro _ w ⟨b1, rfl, S⟩
  refine p_nil (x_then (s_seq (s_plain ?_)))
  refine p_val (e_move (v := .int _ _) rfl) rfl ?_
  refine p_does (d_litB S Try.underlying33 sz5 zv5 rfl (l := [_]) rfl rfl (by decide)) rfl ?_
  rintro _ w ⟨b2, rfl, S⟩
  refine p_val (e_assign (v := .slice _ _ _) rfl) rfl ?_
  refine p_nil (x_then (s_seq (s_seq (s_plain ?_))))
  refine p_val (e_move (v := .slice _ _ _) rfl) rfl ?_
  refine p_val (e_len rfl Try.underlying90) rfl ?_
  refine p_val (e_move (v := .int _ _) rfl) rfl ?_
  refine p_nil (x_then (s_block ?_))
  refine s_loop (α := Nat) (fun g f' w' => ∃ u k c m, f' = upds u [(4, .pointer (some ⟨b1, 0, none⟩)), (5, .slice (at_ k) m c), (11, .slice A ls.length c0), (12, .int .i64 (ls.length : Int)), (13, .int .i64 (g : Int))] ∧ g ≤ ls.length ∧ m = (joinB tag ls g).length ∧ St w0 w' [] [k, some b1] [Rw 5 1 m c (bv (joinB tag ls g)), Ex zl29.toArray 29]) (fun g => ls.length - g) (0) (⟨_, _, _, _, upds_eq ⟨rfl, rfl, rfl, rfl, rfl, trivial⟩, by omega, rfl, S⟩) ?_
  rintro g f w ⟨u, k, c, m, rfl, hg, hm, S⟩
  refine s_seq (s_plain ?_)
  refine p_val (e_lss rfl rfl) rfl ?_
  refine p_nil (x_then (s_seq ?_))
  refine s_cond rfl (fun hc => ?_) (fun hc => ?_)
  · refine s_skip (x_then (s_seq (s_block (s_seq (s_plain ?_)))))
    obtain ⟨ad, rfl⟩ := RA.some_ (by rw [RA.1]; omega)
    obtain ⟨v, hv⟩ : ∃ v, vs[g]? = some v := ⟨_, List.getElem?_eq_getElem (by rw [RA.1]; omega)⟩
    obtain ⟨Ai, ci, rfl, Ri⟩ := hvs g v hv
    have hb := joinB_mono tag ls (m := g + 1) (n := ls.length) (by omega)
    simp only [joinB, List.length_append, len4, List.length_cons, List.length_nil] at hb
    refine p_val (e_ix_sl rfl rfl Try.underlying90 sz33 (by omega)) rfl ?_
    refine p_val (e_load rfl ag33 ((S.rdOld RA rfl).cell1 hv)) rfl ?_
    refine p_val (e_assign (v := .slice _ _ _) rfl) rfl ?_
    refine p_nil (x_then (s_seq (s_plain ?_)))
    refine p_val (e_move (v := .slice _ _ _) rfl) rfl ?_
    refine p_val (e_len rfl Try.underlying33) rfl ?_
    refine p_val (e_assign (v := .int _ _) rfl) rfl ?_
    refine p_nil (x_then (s_seq (s_plain ?_)))
    refine p_val (e_move (v := .slice _ _ _) rfl) rfl ?_
    refine p_val (e_move (v := .int _ _) rfl) rfl ?_
    refine p_val (e_shr64 24 rfl rfl (by decide)) rfl ?_
    refine p_val (e_conv8 rfl Try.underlying3 (by simp) Try.underlying5) rfl ?_
    refine p_val (e_move (v := .int _ _) rfl) rfl ?_
    refine p_val (e_shr64 16 rfl rfl (by decide)) rfl ?_
    refine p_val (e_conv8 rfl Try.underlying3 (by simp) Try.underlying5) rfl ?_
    refine p_val (e_move (v := .int _ _) rfl) rfl ?_
    refine p_val (e_shr64 8 rfl rfl (by decide)) rfl ?_
    refine p_val (e_conv8 rfl Try.underlying3 (by simp) Try.underlying5) rfl ?_
    refine p_val (e_move (v := .int _ _) rfl) rfl ?_
    refine p_val (e_conv8 rfl Try.underlying3 (by simp) Try.underlying5) rfl ?_
    refine p_does (d_litB S Try.underlying33 sz5 zv5 rfl (l := [_, _, _, _]) rfl rfl (by decide)) rfl ?_
    rintro _ w ⟨b5, rfl, S⟩
    refine p_does (d_append S 1 rfl rfl Try.underlying33 el5 rfl rfl (S.rdRw 0 rfl rfl) (bv_one _) (by omega) (by unfold maxLen; omega)) rfl ?_
    rintro _ w ⟨k32, c32, rfl, S⟩
    refine p_val (e_assign (v := .slice _ _ _) rfl) rfl ?_
    refine p_nil (x_then (s_plain ?_))
    refine p_val (e_move (v := .slice _ _ _) rfl) rfl ?_
    refine p_val (e_move (v := .slice _ _ _) rfl) rfl ?_
    refine p_does (d_append S 1 rfl rfl Try.underlying33 el5 rfl rfl (S.rdOld Ri rfl) (bv_one _) (by omega) (by unfold maxLen; omega)) rfl ?_
    rintro _ w ⟨k35, c35, rfl, S⟩
    refine p_val (e_assign (v := .slice _ _ _) rfl) rfl ?_
    refine p_nil (x_in (x_then (s_plain ?_)))
    refine p_val (e_add64 rfl rfl (by omega)) rfl ?_
    refine p_val (e_move (v := .int _ _) rfl) rfl ?_
    refine p_nil ?_
    refine x_round (g + 1) _ rfl ⟨_, _, _, _, upds_eq ⟨rfl, rfl, rfl, rfl, rfl, trivial⟩, by omega, by simp [joinB, len4, hm]; omega, S.tail.asRw (by simp only [← bv_append]; rfl)⟩ (by omega)
  · subst hm
    obtain rfl : g = ls.length := (by omega)
    refine s_exit (x_then_exit (x_then_exit (x_in_same (x_then (s_seq (s_plain ?_))))))
    refine p_val (e_move (v := .slice _ _ _) rfl) rfl ?_
    refine p_does (d_call Try.func80 nm80 rfl rfl (of_calls _ (at_ k) c (joinB tag ls ls.length) (S.rdRw 0 rfl rfl) hl)) rfl ?_
    rintro _ w ⟨rfl, hB⟩
    have S := S.below hB
    refine p_does (d_storeW S 1 rfl rfl (bv_one _) sz29 (by simp [length_sumOf]) rfl rfl (by rfl)) rfl ?_
    intro _ w S
    refine p_nil (x_then (s_ret ?_))
    exact postC Try.results19 S 1 rfl rfl rfl ag29 sz29 (by simp [length_sumOf]) ⟨by unfold join; rfl, S.to_below⟩
theorem pair_calls (w0 : World) (tag : Nat) (a b : List Nat) (ha : a.length = 32) (hb : b.length = 32) :
    Ret Try.prog 85 [.int .u8 (tag : Int), .agg (bv a).toArray, .agg (bv b).toArray] w0 fun v w' => v = .agg (bv (join tag [a, b])).toArray ∧ Below w0.heap.size w0 w' := by
  refine enter Try.func85 rfl Try.ntmps85 (Nat.le_of_ble_eq_true rfl) ?_
  have S := St.init w0
  refine s_seq (s_plain ?_)
  refine p_does (d_boxA S rfl) rfl ?_
  rintro _ w ⟨b1, rfl, S⟩
  refine p_does (d_boxA S rfl) rfl ?_
  rintro _ w ⟨b2, rfl, S⟩
  refine p_does (d_allocA S zv29) rfl ?_
  rintro _ w ⟨b3, rfl, S⟩
  refine p_nil (x_then (s_seq ?_))
  refine s_draw [(true, 0), (true, 1), (true, 2), (false, 3), (false, 4), (false, 5)] (fun w' => True) mixed (by kernel_rfl) (by repeat (first | exact Calm.post _ _ _ | refine Calm.then ?_ _ | refine Calm.inB ?_ _)) ?_
  have S := S.drew
  have hS := trivial
  refine q_val (fun w hS => e_move (v := .int _ _) rfl) rfl hS ?_
  refine q_val (fun w hS => e_sl_arr rfl Try.underlying29 sz5) rfl hS ?_
  refine q_val (fun w hS => e_sl_arr rfl Try.underlying29 sz5) rfl hS ?_
  refine q_does (d_lit1 S Try.underlying90 sz33 zv33 rfl (vs := [.slice _ _ _, .slice _ _ _]) rfl rfl rfl (by decide)) rfl ?_
  rintro _ w ⟨b4, rfl, S⟩; refine ⟨trivial, ?_⟩
  refine q_does (d_call Try.func19 nm19 rfl rfl (join_calls _ tag _ _ [a, b] (Parts.two (S.rdRw 0 rfl rfl) (S.rdBytes 3 rfl rfl ha) (S.rdBytes 2 rfl rfl hb)) (by simp [joinB, len4, ha, hb]) (by simp))) rfl ?_
  rintro _ w ⟨rfl, hB⟩
  have S := S.below hB; refine ⟨trivial, ?_⟩
  refine q_does (d_storeW S 1 rfl rfl (bv_one _) sz29 (by simp [length_join]) rfl rfl (by rfl)) rfl ?_
  intro _ w S; refine ⟨trivial, ?_⟩
  refine q_nil (x_then (s_ret ?_))
  exact postC Try.results85 S 1 rfl rfl rfl ag29 sz29 (by simp [length_join]) ⟨rfl, S.to_below⟩
theorem hash_calls (w0 : World) (A : Option Addr) (c0 : Nat) (l : List Nat) (R : Rd w0 1 A l.length (bv l)) (hl : l.length ≤ 1099511620000) :
    Ret Try.prog 101 [.slice A l.length c0] w0 fun v w' => v = .agg (bv (join 31 [l])).toArray ∧ Below w0.heap.size w0 w' := by
  refine enter Try.func101 rfl Try.ntmps101 (Nat.le_of_ble_eq_true rfl) ?_
  have S := St.init w0
  refine s_seq (s_plain ?_)
  refine p_does (d_allocA S zv29) rfl ?_
  rintro _ w ⟨b1, rfl, S⟩
  refine p_nil (x_then (s_seq (s_plain ?_)))
  refine p_val (e_move (v := .slice _ _ _) rfl) rfl ?_
  refine p_does (d_lit1 S Try.underlying90 sz33 zv33 rfl (vs := [.slice _ _ _]) rfl rfl rfl (by decide)) rfl ?_
  rintro _ w ⟨b2, rfl, S⟩
  refine p_does (d_call Try.func19 nm19 rfl rfl (join_calls _ 31 _ _ [l] (Parts.one (S.rdRw 0 rfl rfl) (S.rdOld R rfl)) (by simp [joinB, len4]; omega) (by simp))) rfl ?_
  rintro _ w ⟨rfl, hB⟩
  have S := S.below hB
  refine p_does (d_storeW S 1 rfl rfl (bv_one _) sz29 (by simp [length_join]) rfl rfl (by rfl)) rfl ?_
  intro _ w S
  refine p_nil (x_then (s_ret ?_))
  exact postC Try.results101 S 1 rfl rfl rfl ag29 sz29 (by simp [length_join]) ⟨rfl, S.to_below⟩
end Go.Proofs.Ytdhfiamgmokfbaa
