/- Own texts, one behind the other: walks and laws that the statement needs. They prove no statement by themselves. -/
import Derived.Test.YtdhfiamgmokfbaaZP12c5
import Derived.Laws.StructEq
import Derived.Test.YtdhfiamgmokfbaaZP12c2
import Derived.Test.YtdhfiamgmokfbaaZP12c3
import Derived.Test.YtdhfiamgmokfbaaZP12c1
/- New keys and what they show, walked. It proves no statement by itself. -/
set_option linter.unusedSimpArgs false
set_option linter.unusedVariables false
set_option maxRecDepth 100000
set_option maxHeartbeats 1000000
namespace Go.Proofs.Ytdhfiamgmokfbaa
open Go Go.RowKit E
attribute [local irreducible] wpList seqH treeH
abbrev keyE (k : Option Nat) (n c : Nat) (s : List Nat) (x : Int) : Option Obj → Prop := Ex (cat [bv s, [.slice (at_ k) n c], [.int .i64 x]]).toArray 127
abbrev keyR (n c : Nat) (L : List (List Nat)) : Option Obj → Prop := Rw 29 32 n c (sv L)
theorem mn_new (w0 : World) (s : List Nat) (n : Nat) (hs : s.length = 32) (h1 : 1 ≤ n) (hn : n ≤ 64) :
    Ret Try.prog 59 [.agg (bv s).toArray, .int .i64 (n : Int)] w0 fun v w' => ∃ b k c, v = .tuple #[.pointer (some ⟨b, 0, none⟩), .int .i64 0] ∧ St w0 w' [] [some b, k] [keyE k n c s 0, keyR n c (mkeys s n)] := by
  refine enter Try.func59 rfl Try.ntmps59 (Nat.le_of_ble_eq_true rfl) ?_
  have S := St.init w0
  refine s_seq (s_plain ?_)
  refine p_does (d_boxA S rfl) rfl ?_
  rintro _ w ⟨b2, rfl, S⟩
  refine p_val (e_assign (v := .pointer _) rfl) rfl ?_
  refine p_val (e_assign (v := .int _ _) rfl) rfl ?_
  refine p_nil (x_then (s_seq (s_seq ?_)))
  refine s_cutK (ks := [some b2]) (ps := [Ex _ _]) [(1, .int _ _), (2, .pointer _)] ⟨rfl, rfl, trivial⟩ S (fun keep ks ps f' w' => ∃ u bb, f' = upds u ((13, .bool bb) :: keep) ∧ (bb = true ↔ False) ∧ St w0 w' [] ks ps) ?_ ?_
  · refine s_plain ?_
    refine p_val (e_move (v := .int _ _) rfl) rfl ?_
    refine p_valB (e_lss rfl rfl) rfl (fun hg9 => ?_) (fun hg9 => ?_)
    · refine p_val (e_move (v := .bool _) rfl) rfl ?_
      refine p_no rfl rfl rfl rfl rfl ?_
      refine p_no rfl rfl rfl rfl rfl ?_
      refine p_val (e_pick_t rfl rfl) rfl ?_
      exact p_nil (x_then ⟨_, rfl, _, _, upds_eq ⟨rfl, rfl, rfl, trivial⟩, by first | (simp only [decide_eq_true_eq, eq_self, true_iff, iff_true, iff_false, Bool.false_eq_true, false_iff, ge_iff_le, gt_iff_lt, true_and, and_true, false_and, and_false, true_or, or_true, false_or, or_false, not_true_eq_false, not_false_eq_true]; omega) | simp | omega | simp_all, S⟩)
    · refine p_val (e_move (v := .bool _) rfl) rfl ?_
      refine pg_val rfl rfl rfl rfl rfl (e_move (v := .int _ _) rfl) ?_
      refine pg_val rfl rfl rfl rfl rfl (e_gtr rfl rfl) ?_
      refine p_val (e_pick_f rfl rfl) rfl ?_
      exact p_nil (x_then ⟨_, rfl, _, _, upds_eq ⟨rfl, rfl, rfl, trivial⟩, by first | (simp only [decide_eq_true_eq, eq_self, true_iff, iff_true, iff_false, Bool.false_eq_true, false_iff, ge_iff_le, gt_iff_lt, true_and, and_true, false_and, and_false, true_or, or_true, false_or, or_false, not_true_eq_false, not_false_eq_true]; omega) | simp | omega | simp_all, S⟩)
  · rintro f w ⟨u, b13, rfl, hb13, S⟩
    refine x_then ?_
    refine s_condb rfl (fun hc13 => ?_) (fun hc13 => ?_)
    · have hp13 : False := hb13.1 hc13
      refine s_seq (s_plain ?_)
      refine p_val (e_assign (v := .pointer _) rfl) rfl ?_
      refine p_val (e_assign (v := .int _ _) rfl) rfl ?_
      refine p_nil (x_then (s_ret (x_then_ret ?_)))
      exact post2 (v := .pointer _) (x := .int _ _) Try.results59 rfl rfl (hp13.elim)
    · have hp13 : ¬ False := fun h => by rw [hb13.2 h] at hc13; cases hc13
      refine s_skip (x_then (s_seq (s_plain ?_)))
      refine p_val (e_loadW 0 rfl ag29 sz29 S rfl rfl (by first | with_reducible assumption | (rw [bv_length]; with_reducible assumption) | (rw [List.size_toArray, bv_length]; with_reducible assumption) | (simp [cat, hs, length_mseed, length_lpub, Value.cells]; done) | (simp [cat, hs, length_mseed, length_lpub, Value.cells]; omega) | rfl)) rfl ?_
      refine p_val (e_buildS bt127 (Eq.trans (fill_cat (v := .agg _) (l' := [_]) 0 1 rfl ((List.append_nil _).symm) (by first | with_reducible assumption | (rw [bv_length]; with_reducible assumption) | (rw [List.size_toArray, bv_length]; with_reducible assumption) | (simp [cat, hs, length_mseed, length_lpub, Value.cells]; done) | (simp [cat, hs, length_mseed, length_lpub, Value.cells]; omega) | rfl) (by first | with_reducible assumption | (rw [bv_length]; with_reducible assumption) | (rw [List.size_toArray, bv_length]; with_reducible assumption) | (simp [cat, hs, length_mseed, length_lpub, Value.cells]; done) | (simp [cat, hs, length_mseed, length_lpub, Value.cells]; omega) | rfl) (by first | with_reducible assumption | (rw [bv_length]; with_reducible assumption) | (rw [List.size_toArray, bv_length]; with_reducible assumption) | (simp [cat, hs, length_mseed, length_lpub, Value.cells]; done) | (simp [cat, hs, length_mseed, length_lpub, Value.cells]; omega) | rfl)) rfl)) rfl ?_
      refine p_does (d_boxA S rfl) rfl ?_
      rintro _ w ⟨b16, rfl, S⟩
      have S := S.addNil 29 32
      refine p_val (e_assign (v := .pointer _) rfl) rfl ?_
      refine p_nil (x_then (s_seq (s_seq (s_plain ?_))))
      refine p_val (e_move (v := .int _ _) rfl) rfl ?_
      refine p_val (e_move (v := .int _ _) rfl) rfl ?_
      refine p_nil (x_then (s_block ?_))
      refine s_loopK (α := Nat) (ks := [none, some b16, some b2]) (ps := [Rw _ _ _ _ _, Ex _ _, Ex _ _]) [(2, .pointer _), (6, .pointer _), (17, .int _ _)] ⟨rfl, rfl, rfl, trivial⟩ S (fun keep ks ps g f' w' => ∃ u Kp16 Cp16 xs, f' = upds u ((18, .int .i64 (g : Int)) :: keep) ∧ (g ≤ n) ∧ (xs = sv (mkeys s g)) ∧ St w0 w' [] [Kp16, some b16, some b2] [Rw 29 32 (g) Cp16 (xs), keyE Kp16 g Cp16 s 0, (ps.getD 2 fun _ => True)]) (fun g => n - g) (0) (⟨_, _, _, _, upds_eq ⟨rfl, rfl, rfl, rfl, trivial⟩, by first | omega | rfl | with_reducible assumption | (simp; done) | (simp; omega), by first | omega | rfl | with_reducible assumption | (simp; done) | (simp; omega), S⟩) ?_
      rintro g f w ⟨u, Kp16, Cp16, xs, rfl, hg, rfl, S⟩
      refine s_seq (s_plain ?_)
      refine p_val (e_lss rfl rfl) rfl ?_
      refine p_nil (x_then (s_seq ?_))
      refine s_cond rfl (fun hc19 => ?_) (fun hc19 => ?_)
      · refine s_skip (x_then (s_seq (s_block (s_seq (s_plain ?_)))))
        refine p_val (e_move (v := .int _ _) rfl) rfl ?_
        refine p_val (e_assign (v := .int _ _) rfl) rfl ?_
        refine p_nil (x_then ?_)
        refine s_drawK (ks := [some b16, some b2]) (ps := [Ex _ _, Ex _ _]) (S.pk [1, 2] rfl) [(true, 0), (true, 1), (true, 2), (true, 3), (true, 4), (true, 5), (true, 6), (false, 7), (false, 8), (false, 9), (false, 10), (true, 11)] [12] [12, 13] mixed (by kernel_rfl) (by repeat (first | exact Calm.post _ _ _ | refine Calm.then ?_ _ | refine Calm.inB ?_ _)) (fun hS => ?_)
        have S := S.drew
        refine q_val (fun w hS => e_move (v := .pointer _) rfl) rfl hS ?_
        refine q_val (fun w hS => e_move (v := .pointer _) rfl) rfl hS ?_
        refine q_val (fun w hS => e_nil rfl rfl) rfl hS ?_
        refine q_val (fun w hS => e_field rfl Try.underlying127 rfl sz24 (by decide)) rfl hS ?_
        refine q_val (fun w hS => e_loadF1 (i := 1) (off := 32) rfl ag24 hS (j := 0) rfl rfl rfl (by first | with_reducible assumption | (rw [bv_length]; with_reducible assumption) | (rw [List.size_toArray, bv_length]; with_reducible assumption) | (simp [cat, hs, length_mseed, length_lpub, Value.cells]; done) | (simp [cat, hs, length_mseed, length_lpub, Value.cells]; omega) | rfl)) rfl hS ?_
        refine q_val (fun w hS => e_loadW 1 rfl ag29 sz29 hS rfl rfl (by first | with_reducible assumption | (rw [bv_length]; with_reducible assumption) | (rw [List.size_toArray, bv_length]; with_reducible assumption) | (simp [cat, hs, length_mseed, length_lpub, Value.cells]; done) | (simp [cat, hs, length_mseed, length_lpub, Value.cells]; omega) | rfl)) rfl hS ?_
        refine q_val (fun w hS => e_move (v := .int _ _) rfl) rfl hS ?_
        refine q_does (d_call Try.func71 nm71 rfl rfl (mn_seed _ _ _ hs)) rfl ?_
        rintro _ w ⟨rfl, hB⟩
        have S := S.below hB
        have hS := S.pk [1, 2] rfl
        refine ⟨hS, ?_⟩
        refine q_does (d_call Try.func31 nm31 rfl rfl (lpub_calls _ _ (by first | with_reducible assumption | (rw [bv_length]; with_reducible assumption) | (rw [List.size_toArray, bv_length]; with_reducible assumption) | (simp [cat, hs, length_mseed, length_lpub, Value.cells]; done) | (simp [cat, hs, length_mseed, length_lpub, Value.cells]; omega) | rfl))) rfl ?_
        rintro _ w ⟨rfl, hB⟩
        have S := S.below hB
        have hS := S.pk [1, 2] rfl
        refine ⟨hS, ?_⟩
        refine q_does (d_litS S Try.underlying24 sz29 zv29 rfl (L := [_]) rfl rfl (by intro x hx; simp at hx; simp [hx, hs, length_mseed, length_lpub, Value.cells]) (by decide)) rfl ?_
        rintro _ w ⟨b30, rfl, S⟩
        have hS := S.pk [2, 3] rfl
        refine ⟨hS, ?_⟩
        refine q_does (d_append S 1 rfl rfl Try.underlying24 el29 rfl rfl (S.rdRw 0 rfl rfl) (by first | exact bv_one _ | exact sv_one _ | exact iv_one _ | with_reducible assumption | (refine One.mem ?_; repeat (first | exact One.bv _ | exact One.sv _ | exact One.iv _ | exact One.nil | exact One.cat0 | refine One.cat1 ?_ ?_ | refine One.cons rfl ?_ | refine One.append ?_ ?_))) (by first | omega | (simp only [List.length_append, List.length_cons, List.length_nil, bv_length, hs, length_mseed, length_lpub, Value.cells]; omega) | (simp [cat, hs, length_mseed, length_lpub, Value.cells]; omega)) (by unfold maxLen; first | omega | (simp only [List.length_append, List.length_cons, List.length_nil, bv_length, hs, length_mseed, length_lpub, Value.cells]; omega))) rfl ?_
        rintro _ w ⟨k31, c31, rfl, S⟩
        have hS := S.pk [2, 3] rfl
        refine ⟨hS, ?_⟩
        refine q_val (fun w hS => e_nil rfl rfl) rfl hS ?_
        refine q_nil ?_
        refine p_val (e_field rfl Try.underlying127 rfl sz24 (by decide)) rfl ?_
        refine p_does (d_storeF1 (v := .slice _ _ _) (off := 32) S 2 1 rfl rfl rfl sz24 rfl rfl rfl (by first | with_reducible assumption | (rw [bv_length]; with_reducible assumption) | (rw [List.size_toArray, bv_length]; with_reducible assumption) | (simp [cat, hs, length_mseed, length_lpub, Value.cells]; done) | (simp [cat, hs, length_mseed, length_lpub, Value.cells]; omega) | rfl)) rfl ?_
        intro _ w S
        refine p_nil (x_in (x_then (s_plain ?_)))
        refine p_val (e_add64 rfl rfl (by omega)) rfl ?_
        refine p_val (e_move (v := .int _ _) rfl) rfl ?_
        refine p_nil ?_
        refine x_round (g + 1) _ rfl ⟨_, _, _, _, upds_eq ⟨rfl, rfl, rfl, rfl, trivial⟩, by first | omega | rfl | with_reducible assumption | (simp; done) | (simp; omega), by rw [mkeys, sv_append], S.pk [1, 2, 3] rfl⟩ (by omega)
      · refine s_exit (x_then_exit (x_then_exit (x_in_same (x_then (s_seq (s_plain ?_))))))
        refine p_val (e_move (v := .pointer _) rfl) rfl ?_
        refine p_val (e_assign (v := .pointer _) rfl) rfl ?_
        refine p_val (e_assign (v := .int _ _) rfl) rfl ?_
        refine p_nil (x_then (s_ret ?_))
        exact post2 (v := .pointer _) (x := .int _ _) Try.results59 rfl rfl (by obtain rfl : g = n := (by omega); exact ⟨_, _, _, rfl, S.pk [1, 0] rfl⟩)
theorem mn_new_no (w0 : World) (s : List Nat) (n : Int) (hs : s.length = 32) (h1 : n < 1 ∨ 64 < n) :
    Ret Try.prog 59 [.agg (bv s).toArray, .int .i64 n] w0 fun v w' => v = .tuple #[.pointer none, .int .i64 1] ∧ Below w0.heap.size w0 w' := by
  refine enter Try.func59 rfl Try.ntmps59 (Nat.le_of_ble_eq_true rfl) ?_
  have S := St.init w0
  refine s_seq (s_plain ?_)
  refine p_does (d_boxA S rfl) rfl ?_
  rintro _ w ⟨b2, rfl, S⟩
  refine p_val (e_assign (v := .pointer _) rfl) rfl ?_
  refine p_val (e_assign (v := .int _ _) rfl) rfl ?_
  refine p_nil (x_then (s_seq (s_seq ?_)))
  refine s_cutK (ks := [some b2]) (ps := [Ex _ _]) [(1, .int _ _), (2, .pointer _)] ⟨rfl, rfl, trivial⟩ S (fun keep ks ps f' w' => ∃ u bb, f' = upds u ((13, .bool bb) :: keep) ∧ (bb = true ↔ True) ∧ St w0 w' [] ks ps) ?_ ?_
  · refine s_plain ?_
    refine p_val (e_move (v := .int _ _) rfl) rfl ?_
    refine p_valB (e_lss rfl rfl) rfl (fun hg9 => ?_) (fun hg9 => ?_)
    · refine p_val (e_move (v := .bool _) rfl) rfl ?_
      refine p_no rfl rfl rfl rfl rfl ?_
      refine p_no rfl rfl rfl rfl rfl ?_
      refine p_val (e_pick_t rfl rfl) rfl ?_
      exact p_nil (x_then ⟨_, rfl, _, _, upds_eq ⟨rfl, rfl, rfl, trivial⟩, by first | (simp only [decide_eq_true_eq, eq_self, true_iff, iff_true, iff_false, Bool.false_eq_true, false_iff, ge_iff_le, gt_iff_lt, true_and, and_true, false_and, and_false, true_or, or_true, false_or, or_false, not_true_eq_false, not_false_eq_true]; omega) | simp | omega | simp_all, S⟩)
    · refine p_val (e_move (v := .bool _) rfl) rfl ?_
      refine pg_val rfl rfl rfl rfl rfl (e_move (v := .int _ _) rfl) ?_
      refine pg_val rfl rfl rfl rfl rfl (e_gtr rfl rfl) ?_
      refine p_val (e_pick_f rfl rfl) rfl ?_
      exact p_nil (x_then ⟨_, rfl, _, _, upds_eq ⟨rfl, rfl, rfl, trivial⟩, by first | (simp only [decide_eq_true_eq, eq_self, true_iff, iff_true, iff_false, Bool.false_eq_true, false_iff, ge_iff_le, gt_iff_lt, true_and, and_true, false_and, and_false, true_or, or_true, false_or, or_false, not_true_eq_false, not_false_eq_true]; omega) | simp | omega | simp_all, S⟩)
  · rintro f w ⟨u, b13, rfl, hb13, S⟩
    refine x_then ?_
    refine s_condb rfl (fun hc13 => ?_) (fun hc13 => ?_)
    · have hp13 : True := hb13.1 hc13
      refine s_seq (s_plain ?_)
      refine p_val (e_assign (v := .pointer _) rfl) rfl ?_
      refine p_val (e_assign (v := .int _ _) rfl) rfl ?_
      refine p_nil (x_then (s_ret (x_then_ret ?_)))
      exact post2 (v := .pointer _) (x := .int _ _) Try.results59 rfl rfl (⟨rfl, S.to_below⟩)
    · exact False.elim (by rw [hb13.2 trivial] at hc13; cases hc13)
end Go.Proofs.Ytdhfiamgmokfbaa

/- What a key shows, walked. It proves no statement by itself. -/
set_option linter.unusedSimpArgs false
set_option linter.unusedVariables false
set_option maxRecDepth 100000
set_option maxHeartbeats 1000000
namespace Go.Proofs.Ytdhfiamgmokfbaa
open Go Go.RowKit E
attribute [local irreducible] wpList seqH treeH
theorem mn_left (w0 : World) (hb : Nat) (k : Option Nat) (n c : Nat) (s : List Nat) (x : Int) (L : List (List Nat)) (S0 : St w0 w0 (exOf [some hb, k]) [some hb, k] [keyE k n c s x, keyR n c L]) (hs : s.length = 32) (hx : 0 ≤ x ∧ x ≤ 64) (hn : n ≤ 64) :
    Ret Try.prog 63 [.pointer (some ⟨hb, 0, none⟩)] w0 fun v w' => v = .int .i64 ((n : Int) - x) ∧ St w0 w' (exOf [some hb, k]) [some hb, k] [keyE k n c s x, keyR n c L] := by
  refine enter Try.func63 rfl Try.ntmps63 (Nat.le_of_ble_eq_true rfl) ?_
  have S := S0
  refine s_seq (s_plain ?_)
  refine p_val (e_assign (v := .int _ _) rfl) rfl ?_
  refine p_nil (x_then (s_seq (s_seq (s_plain ?_))))
  refine p_val (e_move (v := .pointer _) rfl) rfl ?_
  refine p_val (e_eqlP rfl rfl Try.underlying91) rfl ?_
  refine p_nil (x_then ?_)
  refine s_condb rfl (fun hc4 => ?_) (fun hc4 => ?_)
  · exact False.elim (by simp at hc4)
  · refine s_skip (x_then (s_seq ?_))
    refine s_drawK (ks := [some hb, k]) (ps := [Ex _ _, Rw _ _ _ _ _]) S [(true, 0), (true, 1), (true, 2), (true, 3), (true, 4), (true, 5), (true, 6), (true, 7), (true, 8), (true, 9)] [10] [10] mixed (by kernel_rfl) (by repeat (first | exact Calm.post _ _ _ | refine Calm.then ?_ _ | refine Calm.inB ?_ _)) (fun hS => ?_)
    have S := S.drew
    refine q_val (fun w hS => e_move (v := .pointer _) rfl) rfl hS ?_
    refine q_val (fun w hS => e_nil rfl rfl) rfl hS ?_
    refine q_val (fun w hS => e_field rfl Try.underlying127 rfl sz24 (by decide)) rfl hS ?_
    refine q_val (fun w hS => e_loadF1 (i := 1) (off := 32) rfl ag24 hS (j := 0) rfl rfl rfl (by first | with_reducible assumption | (rw [bv_length]; with_reducible assumption) | (rw [List.size_toArray, bv_length]; with_reducible assumption) | (simp [cat, hs, Value.cells]; done) | (simp [cat, hs, Value.cells]; omega) | rfl)) rfl hS ?_
    refine q_val (fun w hS => e_len rfl Try.underlying24) rfl hS ?_
    refine q_val (fun w hS => e_move (v := .pointer _) rfl) rfl hS ?_
    refine q_val (fun w hS => e_nil rfl rfl) rfl hS ?_
    refine q_val (fun w hS => e_field rfl Try.underlying127 rfl sz3 (by decide)) rfl hS ?_
    refine q_val (fun w hS => e_loadF1 (i := 2) (off := 33) rfl ag3 hS (j := 0) rfl rfl rfl (by first | with_reducible assumption | (rw [bv_length]; with_reducible assumption) | (rw [List.size_toArray, bv_length]; with_reducible assumption) | (simp [cat, hs, Value.cells]; done) | (simp [cat, hs, Value.cells]; omega) | rfl)) rfl hS ?_
    refine q_val (fun w hS => e_sub64 rfl rfl (by omega)) rfl hS ?_
    refine q_nil ?_
    refine p_val (e_assign (v := .int _ _) rfl) rfl ?_
    refine p_nil (x_then (s_ret ?_))
    exact post1 (v := .int _ _) Try.results63 rfl (⟨rfl, S⟩)
theorem mn_next (w0 : World) (hb : Nat) (k : Option Nat) (n c : Nat) (s : List Nat) (x : Int) (L : List (List Nat)) (S0 : St w0 w0 (exOf [some hb, k]) [some hb, k] [keyE k n c s x, keyR n c L]) (hs : s.length = 32) :
    Ret Try.prog 70 [.pointer (some ⟨hb, 0, none⟩)] w0 fun v w' => v = .int .i64 x ∧ St w0 w' (exOf [some hb, k]) [some hb, k] [keyE k n c s x, keyR n c L] := by
  refine enter Try.func70 rfl Try.ntmps70 (Nat.le_of_ble_eq_true rfl) ?_
  have S := S0
  refine s_seq (s_plain ?_)
  refine p_val (e_assign (v := .int _ _) rfl) rfl ?_
  refine p_nil (x_then (s_seq (s_seq (s_plain ?_))))
  refine p_val (e_move (v := .pointer _) rfl) rfl ?_
  refine p_val (e_eqlP rfl rfl Try.underlying91) rfl ?_
  refine p_nil (x_then ?_)
  refine s_condb rfl (fun hc4 => ?_) (fun hc4 => ?_)
  · exact False.elim (by simp at hc4)
  · refine s_skip (x_then (s_seq (s_plain ?_)))
    refine p_val (e_move (v := .pointer _) rfl) rfl ?_
    refine p_val (e_nil rfl rfl) rfl ?_
    refine p_val (e_field rfl Try.underlying127 rfl sz3 (by decide)) rfl ?_
    refine p_val (e_loadF1 (i := 2) (off := 33) rfl ag3 S (j := 0) rfl rfl rfl (by first | with_reducible assumption | (rw [bv_length]; with_reducible assumption) | (rw [List.size_toArray, bv_length]; with_reducible assumption) | (simp [cat, hs, Value.cells]; done) | (simp [cat, hs, Value.cells]; omega) | rfl)) rfl ?_
    refine p_val (e_assign (v := .int _ _) rfl) rfl ?_
    refine p_nil (x_then (s_ret ?_))
    exact post1 (v := .int _ _) Try.results70 rfl (⟨rfl, S⟩)
theorem mn_root (w0 : World) (hb : Nat) (k : Option Nat) (c : Nat) (s : List Nat) (x : Int) (L : List (List Nat)) (S0 : St w0 w0 (exOf [some hb, k]) [some hb, k] [keyE k L.length c s x, keyR L.length c L]) (hs : s.length = 32) (hL : All32 L) (hn : L.length ≤ 64) :
    Ret Try.prog 72 [.pointer (some ⟨hb, 0, none⟩)] w0 fun v w' => v = .agg (bv (mroot L)).toArray ∧ St w0 w' (exOf [some hb, k]) [some hb, k] [keyE k L.length c s x, keyR L.length c L] := by
  refine enter Try.func72 rfl Try.ntmps72 (Nat.le_of_ble_eq_true rfl) ?_
  have S := S0
  refine s_seq (s_plain ?_)
  refine p_does (d_allocA S zvS) rfl ?_
  rintro _ w ⟨b2, rfl, S⟩
  refine p_nil (x_then (s_seq (s_seq (s_plain ?_))))
  refine p_val (e_move (v := .pointer _) rfl) rfl ?_
  refine p_val (e_eqlP rfl rfl Try.underlying91) rfl ?_
  refine p_nil (x_then ?_)
  refine s_condb rfl (fun hc4 => ?_) (fun hc4 => ?_)
  · exact False.elim (by simp at hc4)
  · refine s_skip (x_then (s_seq (s_plain ?_)))
    refine p_val (e_move (v := .pointer _) rfl) rfl ?_
    refine p_val (e_nil rfl rfl) rfl ?_
    refine p_val (e_field rfl Try.underlying127 rfl sz24 (by decide)) rfl ?_
    refine p_val (e_loadF1 (i := 1) (off := 32) rfl ag24 S (j := 1) rfl rfl rfl (by first | with_reducible assumption | (rw [bv_length]; with_reducible assumption) | (rw [List.size_toArray, bv_length]; with_reducible assumption) | (simp [cat, hs, Value.cells, length_mroot, length_zsum]; done) | (simp [cat, hs, Value.cells, length_mroot, length_zsum]; omega) | rfl)) rfl ?_
    refine p_does (d_call Try.func42 nm42 rfl rfl (mk_root _ _ _ L (S.rdRw 2 rfl rfl) hL (by omega))) rfl ?_
    rintro _ w ⟨rfl, hB⟩
    have S := S.below hB
    refine p_does (d_storeW S 0 rfl rfl (by first | exact bv_one _ | exact sv_one _ | exact iv_one _ | with_reducible assumption | (refine One.mem ?_; repeat (first | exact One.bv _ | exact One.sv _ | exact One.iv _ | exact One.nil | exact One.cat0 | refine One.cat1 ?_ ?_ | refine One.cons rfl ?_ | refine One.append ?_ ?_))) sz29 (by first | with_reducible assumption | (rw [bv_length]; with_reducible assumption) | (rw [List.size_toArray, bv_length]; with_reducible assumption) | (simp [cat, hs, Value.cells, length_mroot, length_zsum]; done) | (simp [cat, hs, Value.cells, length_mroot, length_zsum]; omega) | rfl) rfl rfl (by first | with_reducible assumption | (rw [bv_length]; with_reducible assumption) | (rw [List.size_toArray, bv_length]; with_reducible assumption) | (simp [cat, hs, Value.cells, length_mroot, length_zsum]; done) | (simp [cat, hs, Value.cells, length_mroot, length_zsum]; omega) | rfl)) rfl ?_
    intro _ w S
    refine p_nil (x_then (s_ret ?_))
    exact postC Try.results72 S 0 rfl rfl rfl ag29 sz29 (by first | with_reducible assumption | (rw [bv_length]; with_reducible assumption) | (rw [List.size_toArray, bv_length]; with_reducible assumption) | (simp [cat, hs, Value.cells, length_mroot, length_zsum]; done) | (simp [cat, hs, Value.cells, length_mroot, length_zsum]; omega) | rfl) (⟨rfl, S.pk [1, 2] rfl⟩)
theorem mn_skip (w0 : World) (hb : Nat) (k : Option Nat) (n c : Nat) (s : List Nat) (x a : Int) (L : List (List Nat)) (S0 : St w0 w0 (exOf [some hb, k]) [some hb, k] [keyE k n c s x, keyR n c L]) (hs : s.length = 32) (hx : 0 ≤ x ∧ x ≤ n) (hn : n ≤ 64) :
    Ret Try.prog 73 [.pointer (some ⟨hb, 0, none⟩), .int .i64 a] w0 fun v w' => v = .int .i64 (if a < x ∨ (n : Int) < a then 5 else 0) ∧ St w0 w' (exOf [some hb, k]) [some hb, k] [keyE k n c s (if a < x ∨ (n : Int) < a then x else a), keyR n c L] := by
  refine enter Try.func73 rfl Try.ntmps73 (Nat.le_of_ble_eq_true rfl) ?_
  have S := S0
  refine s_seq (s_plain ?_)
  refine p_val (e_assign (v := .int _ _) rfl) rfl ?_
  refine p_nil (x_then (s_seq (s_seq ?_)))
  refine s_cutK (ks := [some hb, k]) (ps := [Ex _ _, Rw _ _ _ _ _]) [(0, .pointer _), (1, .int _ _)] ⟨rfl, rfl, trivial⟩ S (fun keep ks ps f' w' => ∃ u bb, f' = upds u ((23, .bool bb) :: keep) ∧ (bb = true ↔ (a < x ∨ (n : Int) < a)) ∧ St w0 w' (exOf [some hb, k]) ks ps) ?_ ?_
  · refine s_plain ?_
    refine p_val (e_move (v := .pointer _) rfl) rfl ?_
    refine p_valb (e_eqlP rfl rfl Try.underlying91) rfl (fun hg6 => ?_) (fun hg6 => ?_)
    · exact False.elim (by simp at hg6)
    · refine p_val (e_move (v := .bool _) rfl) rfl ?_
      refine pg_val rfl rfl rfl rfl rfl (e_move (v := .int _ _) rfl) ?_
      refine pg_val rfl rfl rfl rfl rfl (e_move (v := .pointer _) rfl) ?_
      refine pg_val rfl rfl rfl rfl rfl (e_nil rfl rfl) ?_
      refine pg_val rfl rfl rfl rfl rfl (e_field rfl Try.underlying127 rfl sz3 (by decide)) ?_
      refine pg_val rfl rfl rfl rfl rfl (e_loadF1 (i := 2) (off := 33) rfl ag3 S (j := 0) rfl rfl rfl (by first | with_reducible assumption | (rw [bv_length]; with_reducible assumption) | (rw [List.size_toArray, bv_length]; with_reducible assumption) | (simp [cat, hs, Value.cells]; done) | (simp [cat, hs, Value.cells]; omega) | rfl)) ?_
      refine pg_valB rfl rfl rfl rfl rfl (e_lss rfl rfl) (fun hg13 => ?_) (fun hg13 => ?_)
      · refine p_val (e_pick_f rfl rfl) rfl ?_
        refine p_val (e_move (v := .bool _) rfl) rfl ?_
        refine p_no rfl rfl rfl rfl rfl ?_
        refine p_no rfl rfl rfl rfl rfl ?_
        refine p_no rfl rfl rfl rfl rfl ?_
        refine p_no rfl rfl rfl rfl rfl ?_
        refine p_no rfl rfl rfl rfl rfl ?_
        refine p_no rfl rfl rfl rfl rfl ?_
        refine p_no rfl rfl rfl rfl rfl ?_
        refine p_val (e_pick_t rfl rfl) rfl ?_
        exact p_nil (x_then ⟨_, rfl, _, _, upds_eq ⟨rfl, rfl, rfl, trivial⟩, by first | (simp only [decide_eq_true_eq, eq_self, true_iff, iff_true, iff_false, Bool.false_eq_true, false_iff, ge_iff_le, gt_iff_lt, true_and, and_true, false_and, and_false, true_or, or_true, false_or, or_false, not_true_eq_false, not_false_eq_true]; omega) | simp | omega | simp_all, S⟩)
      · refine p_val (e_pick_f rfl rfl) rfl ?_
        refine p_val (e_move (v := .bool _) rfl) rfl ?_
        refine pg_val rfl rfl rfl rfl rfl (e_move (v := .int _ _) rfl) ?_
        refine pg_val rfl rfl rfl rfl rfl (e_move (v := .pointer _) rfl) ?_
        refine pg_val rfl rfl rfl rfl rfl (e_nil rfl rfl) ?_
        refine pg_val rfl rfl rfl rfl rfl (e_field rfl Try.underlying127 rfl sz24 (by decide)) ?_
        refine pg_val rfl rfl rfl rfl rfl (e_loadF1 (i := 1) (off := 32) rfl ag24 S (j := 0) rfl rfl rfl (by first | with_reducible assumption | (rw [bv_length]; with_reducible assumption) | (rw [List.size_toArray, bv_length]; with_reducible assumption) | (simp [cat, hs, Value.cells]; done) | (simp [cat, hs, Value.cells]; omega) | rfl)) ?_
        refine pg_val rfl rfl rfl rfl rfl (e_len rfl Try.underlying24) ?_
        refine pg_val rfl rfl rfl rfl rfl (e_gtr rfl rfl) ?_
        refine p_val (e_pick_f rfl rfl) rfl ?_
        exact p_nil (x_then ⟨_, rfl, _, _, upds_eq ⟨rfl, rfl, rfl, trivial⟩, by first | (simp only [decide_eq_true_eq, eq_self, true_iff, iff_true, iff_false, Bool.false_eq_true, false_iff, ge_iff_le, gt_iff_lt, true_and, and_true, false_and, and_false, true_or, or_true, false_or, or_false, not_true_eq_false, not_false_eq_true]; omega) | simp | omega | simp_all, S⟩)
  · rintro f w ⟨u, b23, rfl, hb23, S⟩
    refine x_then ?_
    refine s_condb rfl (fun hc23 => ?_) (fun hc23 => ?_)
    · have hp23 : (a < x ∨ (n : Int) < a) := hb23.1 hc23
      refine s_seq (s_plain ?_)
      refine p_val (e_assign (v := .int _ _) rfl) rfl ?_
      refine p_nil (x_then (s_ret (x_then_ret ?_)))
      exact post1 (v := .int _ _) Try.results73 rfl (by rw [if_pos hp23, if_pos hp23]; exact ⟨rfl, S⟩)
    · have hp23 : ¬ (a < x ∨ (n : Int) < a) := fun h => by rw [hb23.2 h] at hc23; cases hc23
      refine s_skip (x_then (s_seq (s_plain ?_)))
      refine p_val (e_move (v := .pointer _) rfl) rfl ?_
      refine p_val (e_move (v := .int _ _) rfl) rfl ?_
      refine p_val (e_nil rfl rfl) rfl ?_
      refine p_val (e_field rfl Try.underlying127 rfl sz3 (by decide)) rfl ?_
      refine p_does (d_storeF1 (v := .int _ _) (off := 33) S 0 2 rfl rfl rfl sz3 rfl rfl rfl (by first | with_reducible assumption | (rw [bv_length]; with_reducible assumption) | (rw [List.size_toArray, bv_length]; with_reducible assumption) | (simp [cat, hs, Value.cells]; done) | (simp [cat, hs, Value.cells]; omega) | rfl)) rfl ?_
      intro _ w S
      refine p_nil (x_then (s_seq (s_plain ?_)))
      refine p_val (e_assign (v := .int _ _) rfl) rfl ?_
      refine p_nil (x_then (s_ret ?_))
      exact post1 (v := .int _ _) Try.results73 rfl (by rw [if_neg hp23, if_neg hp23]; exact ⟨rfl, S⟩)
theorem mn_left_nil (w0 : World) :
    Ret Try.prog 63 [.pointer none] w0 fun v w' => v = .int .i64 0 ∧ Below w0.heap.size w0 w' := by
  refine enter Try.func63 rfl Try.ntmps63 (Nat.le_of_ble_eq_true rfl) ?_
  have S := St.init w0
  refine s_seq (s_plain ?_)
  refine p_val (e_assign (v := .int _ _) rfl) rfl ?_
  refine p_nil (x_then (s_seq (s_seq (s_plain ?_))))
  refine p_val (e_move (v := .pointer _) rfl) rfl ?_
  refine p_val (e_eqlP rfl rfl Try.underlying91) rfl ?_
  refine p_nil (x_then ?_)
  refine s_condb rfl (fun hc4 => ?_) (fun hc4 => ?_)
  · refine s_seq (s_plain ?_)
    refine p_val (e_assign (v := .int _ _) rfl) rfl ?_
    refine p_nil (x_then (s_ret (x_then_ret ?_)))
    exact post1 (v := .int _ _) Try.results63 rfl (⟨rfl, S.to_below⟩)
  · exact False.elim (by simp at hc4)
theorem mn_next_nil (w0 : World) :
    Ret Try.prog 70 [.pointer none] w0 fun v w' => v = .int .i64 0 ∧ Below w0.heap.size w0 w' := by
  refine enter Try.func70 rfl Try.ntmps70 (Nat.le_of_ble_eq_true rfl) ?_
  have S := St.init w0
  refine s_seq (s_plain ?_)
  refine p_val (e_assign (v := .int _ _) rfl) rfl ?_
  refine p_nil (x_then (s_seq (s_seq (s_plain ?_))))
  refine p_val (e_move (v := .pointer _) rfl) rfl ?_
  refine p_val (e_eqlP rfl rfl Try.underlying91) rfl ?_
  refine p_nil (x_then ?_)
  refine s_condb rfl (fun hc4 => ?_) (fun hc4 => ?_)
  · refine s_seq (s_plain ?_)
    refine p_val (e_assign (v := .int _ _) rfl) rfl ?_
    refine p_nil (x_then (s_ret (x_then_ret ?_)))
    exact post1 (v := .int _ _) Try.results70 rfl (⟨rfl, S.to_below⟩)
  · exact False.elim (by simp at hc4)
theorem mn_root_nil (w0 : World) :
    Ret Try.prog 72 [.pointer none] w0 fun v w' => v = .agg (bv zsum).toArray ∧ Below w0.heap.size w0 w' := by
  refine enter Try.func72 rfl Try.ntmps72 (Nat.le_of_ble_eq_true rfl) ?_
  have S := St.init w0
  refine s_seq (s_plain ?_)
  refine p_does (d_allocA S zvS) rfl ?_
  rintro _ w ⟨b2, rfl, S⟩
  refine p_nil (x_then (s_seq (s_seq (s_plain ?_))))
  refine p_val (e_move (v := .pointer _) rfl) rfl ?_
  refine p_val (e_eqlP rfl rfl Try.underlying91) rfl ?_
  refine p_nil (x_then ?_)
  refine s_condb rfl (fun hc4 => ?_) (fun hc4 => ?_)
  · refine s_seq (s_plain ?_)
    refine p_val (e_build (cs := bv zsum) (by kernel_rfl)) rfl ?_
    refine p_does (d_storeW S 0 rfl rfl (by first | exact bv_one _ | exact sv_one _ | exact iv_one _ | with_reducible assumption | (refine One.mem ?_; repeat (first | exact One.bv _ | exact One.sv _ | exact One.iv _ | exact One.nil | exact One.cat0 | refine One.cat1 ?_ ?_ | refine One.cons rfl ?_ | refine One.append ?_ ?_))) sz29 (by first | with_reducible assumption | (rw [bv_length]; with_reducible assumption) | (rw [List.size_toArray, bv_length]; with_reducible assumption) | (simp [cat, length_zsum]; done) | (simp [cat, length_zsum]; omega) | rfl) rfl rfl (by first | with_reducible assumption | (rw [bv_length]; with_reducible assumption) | (rw [List.size_toArray, bv_length]; with_reducible assumption) | (simp [cat, length_zsum]; done) | (simp [cat, length_zsum]; omega) | rfl)) rfl ?_
    intro _ w S
    refine p_nil (x_then (s_ret (x_then_ret ?_)))
    exact postC Try.results72 S 0 rfl rfl rfl ag29 sz29 (by first | with_reducible assumption | (rw [bv_length]; with_reducible assumption) | (rw [List.size_toArray, bv_length]; with_reducible assumption) | (simp [cat, length_zsum]; done) | (simp [cat, length_zsum]; omega) | rfl) (⟨rfl, S.to_below⟩)
  · exact False.elim (by simp at hc4)
end Go.Proofs.Ytdhfiamgmokfbaa

/- Equality of structs, part by part. It proves no statement by itself. -/
set_option linter.unusedSimpArgs false
set_option linter.unusedVariables false
namespace Go.Proofs.Ytdhfiamgmokfbaa.E
open Go Go.RowKit
def EqV (P : Program) (j : Nat) (t : TypeId) (u v : Value) (p : Prop) : Prop := ∀ (d : Nat) (w : World), ∃ r : Bool, (Op.equalIn (d + j) t u v).run P w = .ok r w ∧ (r = true ↔ p)
def EqFd (P : Program) (j : Nat) (xs ys : Array Value) (fs : List Field) (p : Prop) : Prop := ∀ (d : Nat) (w : World), ∃ r : Bool, (Op.eqFields (d + j) xs ys fs).run P w = .ok r w ∧ (r = true ↔ p)
section
variable {P : Program} {t : TypeId} {j : Nat}
theorem EqV.int {k : IntKind} {a b : Int} (h : P.underlying t = some (.int k)) : EqV P 1 t (.int k a) (.int k b) (a = b) := fun d w =>
  ⟨a == b, by rw [run_equalIn_int w d t k k a b h], by simp⟩
theorem EqV.bool {a b : Bool} (h : P.underlying t = some .bool) : EqV P 1 t (.bool a) (.bool b) (a = b) := fun d w =>
  ⟨a == b, by rw [run_equalIn_bool w d t a b h], by simp⟩
theorem EqV.sum {n : Nat} {a b : List Nat} (h : EqT P 2 t (IntT .u8 n)) (ha : a.length = n) (hb : b.length = n) : EqV P 2 t (.agg (bv a).toArray) (.agg (bv b).toArray) (a = b) := fun d w => by
  obtain ⟨r, hr, hiff⟩ := h d w _ _ (IntT.bv a ha) (IntT.bv b hb)
  exact ⟨r, hr, by rw [hiff, bv_eq]⟩
theorem EqV.more {u v : Value} {p : Prop} (k : Nat) (h : EqV P j t u v p) : EqV P (k + j) t u v p := fun d w => by
  obtain ⟨r, hr, hiff⟩ := h (d + k) w
  exact ⟨r, by rw [← Nat.add_assoc]; exact hr, hiff⟩
theorem EqV.iff {u v : Value} {p q : Prop} (h : EqV P j t u v p) (hq : p ↔ q) : EqV P j t u v q := fun d w => by
  obtain ⟨r, hr, hiff⟩ := h d w
  exact ⟨r, hr, hiff.trans hq⟩
theorem run_part1 {l : List (List Value)} {off a : Nat} {v : Value} (w : World) (ha : Ag P t false) (hl : l[a]? = some [v]) (ho : (cat (l.take a)).length = off) : (part t (cat l).toArray off).run P w = .ok v w := by
  have ha' := ha w
  have h2 : (cat l)[off]? = some v := by
    rw [cat_at hl, List.append_assoc, List.getElem?_append_right (by omega), show off - (cat (l.take a)).length = 0 by omega]; rfl
  simp [part, ha', h2]
theorem run_partA {l : List (List Value)} {off a s : Nat} {xs : List Value} (w : World) (ha : Ag P t true) (hs : Sz P t s) (hl : l[a]? = some xs) (ho : (cat (l.take a)).length = off) (hn : xs.length = s) : (part t (cat l).toArray off).run P w = .ok (.agg xs.toArray) w := by
  have ha' := ha w
  have hs' := hs w
  have h2 : (cat l).toArray.extract off (off + s) = xs.toArray := by
    apply Array.ext'
    rw [Array.toList_extract, List.extract_eq_take_drop]
    show ((cat l).drop off).take _ = _
    rw [cat_at hl, show off + s - off = s by omega, List.append_assoc, ← ho, List.drop_left, ← hn, List.take_left]
  unfold part
  simp only [Sem.run_bind, ha', hs', Result.andThen_ok, if_true, Sem.run_pure, h2]
theorem eqf_nil {xs ys : Array Value} : EqFd P j xs ys [] True := fun d w => ⟨true, by simp [Op.eqFields], by simp⟩
theorem eqf_cons {xs ys : Array Value} {f : Field} {fs : List Field} {u v : Value} {p q : Prop} (hn : (f.name != "_") = true) (hx : ∀ w, (part f.type xs f.offset).run P w = .ok u w) (hy : ∀ w, (part f.type ys f.offset).run P w = .ok v w) (h : EqV P j f.type u v p) (hr : EqFd P j xs ys fs q) :
    EqFd P j xs ys (f :: fs) (p ∧ q) := fun d w => by
  obtain ⟨r, h1, h2⟩ := h d w
  obtain ⟨r', h3, h4⟩ := hr d w
  have hn' : f.name ≠ "_" := by simpa using hn
  simp only [Op.eqFields, if_pos hn', Sem.run_bind, hx, hy, h1, Result.andThen_ok]
  cases r with
  | false => exact ⟨false, by simp, by simp [← h2]⟩
  | true => exact ⟨r', by simpa using h3, by simp [← h2, h4]⟩
theorem EqV.struct {xs ys : Array Value} {p : Prop} {fs : Array Field} (ht : P.underlying t = some (.struct fs)) (hp : P.stoodInHeld t = false) (h : EqFd P j xs ys fs.toList p) : EqV P (j + 1) t (.agg xs) (.agg ys) p := fun d w => by
  have hf : P.fieldsOf t = fs := by simp [Program.fieldsOf, ht]
  obtain ⟨r, hr, hiff⟩ := h d w
  exact ⟨r, by rw [show d + (j + 1) = (d + j) + 1 from rfl, run_equalIn_struct w (d + j) t xs ys (by rw [hf]; exact ht) hp, hf]; exact hr, hiff⟩
variable {ρ : Operand → Value} {d : Option Tmp} {x y : Operand} {ty yt : TypeId} {ps : String} {af : Array Edge} {g : Option (Nat × Bool)} {w : World}
theorem e_eqlV {u v : Array Value} {p : Prop} [Decidable p] (h : EqV P j t (.agg u) (.agg v) p) (hj : j ≤ 10000) (hg : P.eqGuardType P.depth t = false) (hx : ρ x = .agg u) (hy : ρ y = .agg v) :
    (execOp ρ { dst := d, op := .binOp .eql t x y yt, type := ty, pos := ps, after := af, guard := g }).run P w = .ok (.value (.bool (decide p))) w := by
  refine run_bin (fun w => ?_) (fun w => ?_)
  · obtain ⟨r', h', hiff⟩ := h (10000 - j) w
    rw [show 10000 - j + j = 10000 by omega] at h'
    have : r' = decide p := by cases r' <;> by_cases hp : p <;> simp_all
    subst this
    rw [hx, hy]
    exact bin_eql h' fun op h => by subst h; rfl
  · rw [hx, hy]
    simp [eqGuard, hg]
theorem e_neqV {u v : Array Value} {p : Prop} [Decidable p] (h : EqV P j t (.agg u) (.agg v) p) (hj : j ≤ 10000) (hg : P.eqGuardType P.depth t = false) (hx : ρ x = .agg u) (hy : ρ y = .agg v) :
    (execOp ρ { dst := d, op := .binOp .neq t x y yt, type := ty, pos := ps, after := af, guard := g }).run P w = .ok (.value (.bool (decide (¬ p)))) w := by
  refine run_bin (fun w => ?_) (fun w => ?_)
  · obtain ⟨r', h', hiff⟩ := h (10000 - j) w
    rw [show 10000 - j + j = 10000 by omega] at h'
    have : r' = decide p := by cases r' <;> by_cases hp : p <;> simp_all
    subst this
    rw [hx, hy]
    have := bin_neq h' fun op h => by subst h; rfl
    rwa [show (!decide p) = decide (¬ p) by by_cases hp : p <;> simp [hp]] at this
  · rw [hx, hy]
    simp [eqGuard, hg]
end
section
variable {P : Program} {ρ : Operand → Value} {d : Option Tmp} {x y : Operand} {t ty : TypeId} {ps : String} {af : Array Edge} {g : Option (Nat × Bool)} {w w0 : World} {ex : List Nat} {ks : List (Option Nat)} {pp : List (Option Obj → Prop)}
/-- a literal of numbers -/
theorem d_litI {e : TypeId} {n : Nat} {parts : List (Nat × Operand)} {l : List Int} {z : Value} (S : St w0 w ex ks pp) (hu : P.underlying t = some (.slice e)) (hs : Sz P e 1) (hz : Zv P e z) (hsz : z.cells.size = 1)
    (hp : parts.map (fun q => (q.1, ρ q.2)) = (List.range' 0 n).zip (iv l)) (hn : l.length = n) (hlim : n ≤ 16777216) :
    Does P ρ { dst := d, op := .buildSlice t n parts.toArray, type := ty, pos := ps, after := af, guard := g } w
      fun v w' => ∃ b, v = .slice (at_ (some b)) n n ∧ St w0 w' ex (some b :: ks) (Rw e 1 n n (iv l) :: pp) :=
  d_lit1 S hu hs hz hsz hp (by simpa using hn) (List.all_eq_true.2 (iv_one l)) hlim
end
/-! ### What is written is read, and nothing else -/
theorem rn_vnum : ∀ (r i v x : Nat) (rest : List Nat), x < 128 ^ (r + 1) → (0 < i → 0 < x) → rn (r + 1) i v (vnum x ++ rest) = .inr (v + x * 128 ^ i, rest)
  | r, i, v, x, rest, h, hi => by
    by_cases hx : x < 128
    · rw [vnum_small hx]
      show (if x < 128 then (if x = 0 ∧ 0 < i then _ else _) else _) = _
      rw [if_pos hx, if_neg (by omega), Nat.mod_eq_of_lt hx]
      rfl
    · rw [vnum_big hx]
      show (if x % 128 + 128 < 128 then _ else rn r (i + 1) (v + (x % 128 + 128) % 128 * 128 ^ i) (vnum (x / 128) ++ rest)) = _
      rw [if_neg (by omega)]
      match r, h with
      | 0, h => simp at h; omega
      | r + 1, h =>
        rw [rn_vnum r (i + 1) _ (x / 128) rest (by rw [Nat.div_lt_iff_lt_mul (by decide)]; rw [Nat.pow_succ] at h; exact h) (by omega)]
        congr 2
        have e : x = x / 128 * 128 + x % 128 := by omega
        rw [show (x % 128 + 128) % 128 = x % 128 by omega, Nat.pow_succ, Nat.add_assoc]
        congr 1
        conv => rhs; rw [e]
        rw [Nat.add_mul, Nat.mul_comm (128 ^ i) 128, ← Nat.mul_assoc, Nat.add_comm]
theorem rn_inv : ∀ (r i v : Nat) (l : List Nat) (v' : Nat) (l' : List Nat), Bytes l → rn r i v l = .inr (v', l') → ∃ x, l = vnum x ++ l' ∧ v' = v + x * 128 ^ i ∧ x < 128 ^ r ∧ (0 < i → 0 < x)
  | 0, i, v, l, v', l', _, h => by cases h
  | r + 1, i, v, [], v', l', _, h => by cases h
  | r + 1, i, v, c :: l, v', l', hB, h => by
    have hc : c < 256 := hB c (by simp)
    change (if c < 128 then (if c = 0 ∧ 0 < i then _ else _) else _) = _ at h
    by_cases h1 : c < 128
    · rw [if_pos h1] at h
      by_cases h2 : c = 0 ∧ 0 < i
      · rw [if_pos h2] at h; cases h
      · rw [if_neg h2] at h
        simp only [Sum.inr.injEq, Prod.mk.injEq] at h
        refine ⟨c, by rw [vnum_small h1, ← h.2]; rfl, by rw [← h.1, Nat.mod_eq_of_lt h1], ?_, by omega⟩
        have : 0 < 128 ^ r := Nat.pow_pos (by decide)
        rw [Nat.pow_succ]; omega
    · rw [if_neg h1] at h
      obtain ⟨x, e1, e2, e3, e4⟩ := rn_inv r (i + 1) _ l v' l' (fun y hy => hB y (by simp [hy])) h
      have hx := e4 (by omega)
      refine ⟨x * 128 + c % 128, ?_, ?_, ?_, by omega⟩
      · rw [vnum_big (by omega), show (x * 128 + c % 128) % 128 + 128 = c by omega, show (x * 128 + c % 128) / 128 = x by omega, e1]; rfl
      · rw [e2, Nat.pow_succ, Nat.add_mul, Nat.mul_comm (128 ^ i) 128, ← Nat.mul_assoc, Nat.add_assoc, Nat.add_comm (c % 128 * 128 ^ i)]
      · rw [Nat.pow_succ]; omega
theorem rNum_num {a : Int} (h : 0 ≤ a ∧ a < 9223372036854775808) (l : List Nat) : rNum 0 (num a ++ l) = (a, 0, l) := by
  have e1 : a.toNat % 18446744073709551616 = a.toNat := Nat.mod_eq_of_lt (by omega)
  have h9 : rn 9 0 0 (num a ++ l) = .inr (0 + a.toNat * 128 ^ 0, l) := by
    unfold num
    rw [e1]
    exact rn_vnum 8 0 0 a.toNat l (by have e : 128 ^ (8 + 1) = 9223372036854775808 := by decide
                                      rw [e]; omega) (fun h => absurd h (by decide))
  rw [rNum_inr h9]
  simp
  omega
theorem rNum_inv {e a : Int} {l l' : List Nat} (hB : Bytes l) (h : rNum e l = (a, 0, l')) : e = 0 ∧ l = num a ++ l' ∧ 0 ≤ a ∧ a < 9223372036854775808 := by
  unfold rNum at h
  by_cases he : e = 0
  · rw [if_pos he] at h
    refine ⟨he, ?_⟩
    cases hr : rn 9 0 0 l with
    | inl x =>
      rw [hr] at h
      simp only [Prod.mk.injEq] at h
      have : ∀ (r i v : Nat) (l : List Nat), rn r i v l ≠ .inl 0 := by
        intro r
        induction r with
        | zero => intro i v l h; simp [rn] at h
        | succ r ih =>
          intro i v l h
          cases l with
          | nil => simp [rn] at h
          | cons c l =>
            simp only [rn] at h
            split at h
            · split at h
              · simp at h
              · cases h
            · exact ih _ _ _ h
      rw [h.2.1] at hr
      exact absurd hr (this _ _ _ _)
    | inr q =>
      obtain ⟨v, l2⟩ := q
      rw [hr] at h
      simp only [Prod.mk.injEq] at h
      obtain ⟨x, e1, e2, e3, _⟩ := rn_inv 9 0 0 l v l2 hB hr
      have e4 : 128 ^ 9 = 9223372036854775808 := by decide
      rw [e4] at e3
      obtain ⟨h1, _, h3⟩ := h
      subst h3
      have ev : v = x := by rw [e2]; simp
      subst ev
      refine ⟨?_, by omega, by omega⟩
      rw [e1]
      unfold num
      rw [← h1, Int.toNat_natCast, Nat.mod_eq_of_lt (by omega)]
  · rw [if_neg he] at h
    simp only [Prod.mk.injEq] at h
    exact absurd h.2.1 he
theorem rUpto_num {a m : Int} (h : 0 ≤ a ∧ a ≤ m) (hm : m < 9223372036854775808) (l : List Nat) : rUpto m 0 (num a ++ l) = (a, 0, l) := by
  rw [rUpto_of (e2 := 0) (rNum_num ⟨h.1, by omega⟩ l) (by rw [if_neg (by omega)]), if_pos rfl]
theorem rUpto_inv {m e a : Int} {l l' : List Nat} (hB : Bytes l) (h : rUpto m e l = (a, 0, l')) : e = 0 ∧ l = num a ++ l' ∧ 0 ≤ a ∧ a ≤ m ∧ a < 9223372036854775808 := by
  unfold rUpto at h
  simp only [Prod.mk.injEq] at h
  obtain ⟨h1, h2, h3⟩ := h
  rw [if_pos h2] at h1
  have hle : ¬ m < (rNum e l).1 ∧ (rNum e l).2.1 = 0 := by
    split at h2
    · unfold rFail at h2
      split at h2
      · cases h2
      · exact absurd h2 (by assumption)
    · exact ⟨by assumption, h2⟩
  have h5 : rNum e l = (a, 0, l') := by
    rw [← h1, ← h3, ← hle.2]
  obtain ⟨e1, e2, e3, e4⟩ := rNum_inv hB h5
  exact ⟨e1, e2, e3, by rw [← h1]; omega, e4⟩
theorem rSum_sum {s : List Nat} (h : s.length = 32) (l : List Nat) : rSum 0 (s ++ l) = (s, 0, l) := by
  have e : rRaw 32 0 (s ++ l) = (s, 0, l) := by
    unfold rRaw
    rw [if_pos rfl, if_neg (by rw [List.length_append]; omega), show (32 : Int).toNat = s.length by rw [h]; rfl, List.take_left, List.drop_left]
  rw [rSum_of e]
  unfold sum32
  rw [if_pos h]
theorem rRaw_inv {k e : Int} {l b l' : List Nat} (h : rRaw k e l = (b, 0, l')) : e = 0 ∧ l = b ++ l' ∧ b.length = k.toNat ∧ 0 ≤ k := by
  unfold rRaw at h
  split at h
  · rename_i he
    split at h
    · simp at h
    · rename_i h1
      simp only [Prod.mk.injEq] at h
      exact ⟨he, by rw [← h.1, ← h.2.2, List.take_append_drop], by rw [← h.1, List.length_take]; omega, by omega⟩
  · rename_i he
    simp only [Prod.mk.injEq] at h
    exact absurd h.2.1 he
theorem rSum_inv {e : Int} {l s l' : List Nat} (h : rSum e l = (s, 0, l')) : e = 0 ∧ l = s ++ l' ∧ s.length = 32 := by
  unfold rSum at h
  simp only [Prod.mk.injEq] at h
  have h2 : rRaw 32 e l = ((rRaw 32 e l).1, 0, l') := by rw [← h.2]
  obtain ⟨e1, e2, e3, _⟩ := rRaw_inv h2
  have e4 : (rRaw 32 e l).1.length = 32 := e3
  have e5 : s = (rRaw 32 e l).1 := by rw [← h.1]; unfold sum32; rw [if_pos e4]
  exact ⟨e1, by rw [e5]; exact e2, by rw [e5]; exact e4⟩
theorem rText_text {s : List Nat} {m : Int} (h : (s.length : Int) ≤ m) (hm : m < 9223372036854775808) (l : List Nat) : rText m 0 (num s.length ++ (s ++ l)) = (s, 0, l) := by
  rw [rText_of (rUpto_num ⟨by omega, h⟩ hm (s ++ l)) (b := s) (e2 := 0) (l2 := l)]
  unfold rRaw
  rw [if_pos rfl, if_neg (by rw [List.length_append]; omega), Int.toNat_natCast, List.take_left, List.drop_left]
theorem rText_inv {m e : Int} {l s l' : List Nat} (hB : Bytes l) (h : rText m e l = (s, 0, l')) : e = 0 ∧ l = num s.length ++ (s ++ l') ∧ (s.length : Int) ≤ m := by
  unfold rText at h
  obtain ⟨e1, e2, e3, e4⟩ := rRaw_inv h
  have h2 : rUpto m e l = ((rUpto m e l).1, 0, (rUpto m e l).2.2) := by rw [← e1]
  obtain ⟨f1, f2, f3, f4, _⟩ := rUpto_inv hB h2
  have f5 : (rUpto m e l).1 = (s.length : Int) := by omega
  rw [f5] at f2 f4
  exact ⟨f1, by rw [← e2]; exact f2, f4⟩
theorem rText_bytes {m e e1 : Int} {l s l' : List Nat} (hB : Bytes l) (h : rText m e l = (s, e1, l')) : Bytes s := by
  have hs : ∀ (k e : Int) (l : List Nat), Bytes l → Bytes (rRaw k e l).1 := by
    intro k e l hB
    unfold rRaw
    split
    · split
      · intro x hx; simp at hx
      · intro x hx; exact hB x (List.mem_of_mem_take hx)
    · intro x hx; simp at hx
  have hu : ∀ (r i v : Nat) (l : List Nat) (v' : Nat) (l' : List Nat), rn r i v l = .inr (v', l') → ∀ x ∈ l', x ∈ l := by
    intro r
    induction r with
    | zero => intro i v l v' l' h; cases h
    | succ r ih =>
      intro i v l v' l' h
      cases l with
      | nil => cases h
      | cons c l =>
        change (if c < 128 then (if c = 0 ∧ 0 < i then _ else _) else _) = _ at h
        split at h
        · split at h
          · cases h
          · simp only [Sum.inr.injEq, Prod.mk.injEq] at h
            intro x hx
            rw [← h.2] at hx
            exact List.mem_cons_of_mem _ hx
        · intro x hx
          exact List.mem_cons_of_mem _ (ih _ _ _ _ _ h x hx)
  have h2 : Bytes (rUpto m e l).2.2 := by
    show Bytes (rNum e l).2.2
    unfold rNum
    split
    · cases hr : rn 9 0 0 l with
      | inl x => exact hB
      | inr q => exact fun x hx => hB x (hu _ _ _ _ _ _ hr x hx)
    · exact hB
  have := hs (rUpto m e l).1 (rUpto m e l).2.1 _ h2
  unfold rText at h
  rw [h] at this
  exact this
theorem rDone_nil : rDone 0 [] = 0 := rfl
theorem rDone_inv {e : Int} {l : List Nat} (h : rDone e l = 0) : e = 0 ∧ l = [] := by
  unfold rDone at h
  split at h
  · cases h
  · rename_i h1
    exact ⟨h, by cases l with
      | nil => rfl
      | cons a l => exact absurd ⟨h, by simp⟩ h1⟩
end Go.Proofs.Ytdhfiamgmokfbaa.E

/- What writes bytes. It proves no statement by itself. -/
set_option linter.unusedSimpArgs false
set_option linter.unusedVariables false
set_option maxRecDepth 100000
set_option maxHeartbeats 1000000
namespace Go.Proofs.Ytdhfiamgmokfbaa
open Go Go.RowKit E
attribute [local irreducible] wpList seqH treeH
/-- a pen with bytes l: its block, its row -/
abbrev penE (k : Option Nat) (c : Nat) (l : List Nat) : Option Obj → Prop := Ex (cat [[.slice (at_ k) l.length c]]).toArray 98
abbrev penR (c : Nat) (l : List Nat) : Option Obj → Prop := Rw 5 1 l.length c (bv l)
theorem pen_new {w0 w : World} {ex : List Nat} {ks : List (Option Nat)} {ps : List (Option Obj → Prop)} {b : Nat} (S : St w0 w ex (some b :: ks) (Ex (cat zc98).toArray 98 :: ps)) :
    St w0 w ex (some b :: none :: ks) (penE none 0 [] :: penR 0 [] :: ps) := (S.addNil 5 1).swap
theorem pen_num (w0 : World) (hb : Nat) (k : Option Nat) (c : Nat) (l : List Nat) (a : Int) (S0 : St w0 w0 (exOf [some hb, k]) [some hb, k] [penE k c l, penR c l]) (hl : l.length ≤ 1099511627776) :
    Ret Try.prog 90 [.pointer (some ⟨hb, 0, none⟩), .int .i64 a] w0 fun v w' => v = .pointer (some ⟨hb, 0, none⟩) ∧ ∃ k' c', St w0 w' (exOf [some hb, k]) [some hb, k'] [penE k' c' (l ++ num a), penR c' (l ++ num a)] := by
  refine enter Try.func90 rfl Try.ntmps90 (Nat.le_of_ble_eq_true rfl) ?_
  have S := S0
  have hna := num_len a
  refine s_seq (s_plain ?_)
  refine p_val (e_assign (v := .pointer _) rfl) rfl ?_
  refine p_nil (x_then (s_seq (s_seq (s_plain ?_))))
  refine p_val (e_move (v := .pointer _) rfl) rfl ?_
  refine p_val (e_eqlP rfl rfl Try.underlying99) rfl ?_
  refine p_nil (x_then ?_)
  refine s_condb rfl (fun hc7 => ?_) (fun hc7 => ?_)
  · exact False.elim (by simp at hc7)
  · refine s_skip (x_then (s_seq (s_plain ?_)))
    refine p_val (e_move (v := .int _ _) rfl) rfl ?_
    refine p_val (e_max0 rfl rfl) rfl ?_
    refine p_val (e_convU64 rfl Try.underlying3 (by simp) Try.underlying150) rfl ?_
    refine p_val (e_assign (v := .int _ _) rfl) rfl ?_
    refine p_nil (x_then (s_seq (s_block ?_)))
    refine s_loopK (α := Nat) (ks := [some hb, k]) (ps := [Ex _ _, Rw _ _ _ _ _]) [(0, .pointer _)] ⟨rfl, trivial⟩ S (fun keep ks ps g f' w' => ∃ u Kk Ck m xs p, f' = upds u ((5, .int .u64 (g : Int)) :: keep) ∧ (m = l.length + p.length) ∧ (xs = bv (l ++ p)) ∧ (p ++ vnum g = num a) ∧ St w0 w' (exOf [some hb, k]) [some hb, Kk] [Ex (cat [[.slice (at_ Kk) m Ck]]).toArray 98, Rw 5 1 (m) Ck (xs)]) (fun g => g) (a.toNat % 18446744073709551616) (⟨_, _,  _,  _,  _,  [], upds_eq ⟨rfl, rfl, trivial⟩, by first | omega | rfl | with_reducible assumption | (simp; done) | (simp; omega), by simp, by unfold num; rfl, S⟩) ?_
    rintro g f w ⟨u, Kk, Ck, m, xs, p, rfl, rfl, rfl, hv, S⟩
    have hpl : p.length + (vnum g).length = (num a).length := by rw [← hv, List.length_append]
    refine s_seq (s_seq (s_plain ?_))
    refine p_val (e_move (v := .int _ _) rfl) rfl ?_
    refine p_val (e_geq rfl rfl) rfl ?_
    refine p_nil (x_then ?_)
    refine s_cond rfl (fun hc13 => ?_) (fun hc13 => ?_)
    · refine s_skip (x_then (s_block (s_seq (s_plain ?_))))
      refine p_val (e_move (v := .pointer _) rfl) rfl ?_
      refine p_val (e_move (v := .pointer _) rfl) rfl ?_
      refine p_val (e_nil rfl rfl) rfl ?_
      refine p_val (e_field rfl Try.underlying98 rfl sz33 (by decide)) rfl ?_
      refine p_val (e_loadF1 (i := 0) (off := 0) rfl ag33 S (j := 0) rfl rfl rfl (by first | with_reducible assumption | (simp [cat]; done) | (simp [cat]; omega) | rfl)) rfl ?_
      refine p_val (e_move (v := .int _ _) rfl) rfl ?_
      refine p_val (e_conv8 rfl Try.underlying150 (by simp) Try.underlying5) rfl ?_
      refine p_val (e_or8 (n := 128) rfl rfl (by omega) (by omega)) rfl ?_
      refine p_does (d_litB S Try.underlying33 sz5 zv5 rfl (l := [_]) rfl rfl (by decide)) rfl ?_
      rintro _ w ⟨b22, rfl, S⟩
      refine p_does (d_append S 2 rfl rfl Try.underlying33 el5 rfl rfl (S.rdRw 0 rfl rfl) (by first | exact bv_one _ | exact sv_one _ | exact iv_one _ | with_reducible assumption | (refine One.mem ?_; repeat (first | exact One.bv _ | exact One.sv _ | exact One.iv _ | exact One.nil | exact One.cat0 | refine One.cat1 ?_ ?_ | refine One.cons rfl ?_ | refine One.append ?_ ?_))) (by first | omega | (simp only [List.length_append, List.length_cons, List.length_nil, bv_length]; omega) | (simp [cat]; omega)) (by unfold maxLen; first | omega | (simp only [List.length_append, List.length_cons, List.length_nil, bv_length]; omega))) rfl ?_
      rintro _ w ⟨k23, c23, rfl, S⟩
      refine p_val (e_nil rfl rfl) rfl ?_
      refine p_val (e_field rfl Try.underlying98 rfl sz33 (by decide)) rfl ?_
      refine p_does (d_storeF1 (v := .slice _ _ _) (off := 0) S 1 0 rfl rfl rfl sz33 rfl rfl rfl (by first | with_reducible assumption | (simp [cat]; done) | (simp [cat]; omega) | rfl)) rfl ?_
      intro _ w S
      refine p_nil (x_then (s_plain ?_))
      refine p_val (e_move (v := .int _ _) rfl) rfl ?_
      refine p_val (e_shr64 7 rfl rfl (by decide)) rfl ?_
      refine p_val (e_assign (v := .int _ _) rfl) rfl ?_
      refine p_nil (x_in ?_)
      refine x_round (g >>> 7) _ rfl ⟨_, _,  _,  _,  _,  p ++ [(g % 256) ||| 128], upds_eq ⟨rfl, rfl, trivial⟩, by simp; omega, by simp [bv], by rw [← hv, vnum_big (v := g) (by omega), or128 (by omega), Nat.shiftRight_eq_div_pow, show g % 256 % 128 = g % 128 by omega]; simp, S.pk [1, 2] rfl⟩ (by rw [Nat.shiftRight_eq_div_pow]; omega)
    · refine s_exit (x_then_exit (x_then_exit (x_in_same (x_then (s_seq (s_plain ?_))))))
      refine p_val (e_move (v := .pointer _) rfl) rfl ?_
      refine p_val (e_move (v := .pointer _) rfl) rfl ?_
      refine p_val (e_nil rfl rfl) rfl ?_
      refine p_val (e_field rfl Try.underlying98 rfl sz33 (by decide)) rfl ?_
      refine p_val (e_loadF1 (i := 0) (off := 0) rfl ag33 S (j := 0) rfl rfl rfl (by first | with_reducible assumption | (simp [cat]; done) | (simp [cat]; omega) | rfl)) rfl ?_
      refine p_val (e_move (v := .int _ _) rfl) rfl ?_
      refine p_val (e_conv8 rfl Try.underlying150 (by simp) Try.underlying5) rfl ?_
      refine p_does (d_litB S Try.underlying33 sz5 zv5 rfl (l := [_]) rfl rfl (by decide)) rfl ?_
      rintro _ w ⟨b35, rfl, S⟩
      refine p_does (d_append S 2 rfl rfl Try.underlying33 el5 rfl rfl (S.rdRw 0 rfl rfl) (by first | exact bv_one _ | exact sv_one _ | exact iv_one _ | with_reducible assumption | (refine One.mem ?_; repeat (first | exact One.bv _ | exact One.sv _ | exact One.iv _ | exact One.nil | exact One.cat0 | refine One.cat1 ?_ ?_ | refine One.cons rfl ?_ | refine One.append ?_ ?_))) (by first | omega | (simp only [List.length_append, List.length_cons, List.length_nil, bv_length]; omega) | (simp [cat]; omega)) (by unfold maxLen; first | omega | (simp only [List.length_append, List.length_cons, List.length_nil, bv_length]; omega))) rfl ?_
      rintro _ w ⟨k36, c36, rfl, S⟩
      refine p_val (e_nil rfl rfl) rfl ?_
      refine p_val (e_field rfl Try.underlying98 rfl sz33 (by decide)) rfl ?_
      refine p_does (d_storeF1 (v := .slice _ _ _) (off := 0) S 1 0 rfl rfl rfl sz33 rfl rfl rfl (by first | with_reducible assumption | (simp [cat]; done) | (simp [cat]; omega) | rfl)) rfl ?_
      intro _ w S
      refine p_nil (x_then (s_seq (s_plain ?_)))
      refine p_val (e_move (v := .pointer _) rfl) rfl ?_
      refine p_val (e_assign (v := .pointer _) rfl) rfl ?_
      refine p_nil (x_then (s_ret ?_))
      exact post1 (v := .pointer _) Try.results90 rfl (⟨rfl, _, _, (S.pk [1, 2] rfl).pen (by rw [← hv, vnum_small (v := g) (by omega), show g % 256 = g by omega]; simp [bv])⟩)
theorem pen_nums (w0 : World) (hb : Nat) (k : Option Nat) (c : Nat) (l : List Nat) (xs : List Int) (A : Option Addr) (n c1 : Nat) (S0 : St w0 w0 (exOf [some hb, k]) [some hb, k] [penE k c l, penR c l]) (R : Rd w0 1 A n (iv xs)) (oR : Off A n (exOf [some hb, k])) (hl : l.length ≤ 1099511000000) (hn : n ≤ 1000) :
    Ret Try.prog 64 [.pointer (some ⟨hb, 0, none⟩), .slice A n c1] w0 fun v w' => v = .pointer (some ⟨hb, 0, none⟩) ∧ ∃ k' c', St w0 w' (exOf [some hb, k]) [some hb, k'] [penE k' c' (l ++ nums xs), penR c' (l ++ nums xs)] := by
  refine enter Try.func64 rfl Try.ntmps64 (Nat.le_of_ble_eq_true rfl) ?_
  have S := S0
  have hxl : xs.length = n := by simpa using R.1
  refine s_seq (s_plain ?_)
  refine p_val (e_assign (v := .pointer _) rfl) rfl ?_
  refine p_nil (x_then (s_seq (s_seq (s_plain ?_))))
  refine p_val (e_move (v := .slice _ _ _) rfl) rfl ?_
  refine p_val (e_len rfl Try.underlying128) rfl ?_
  refine p_val (e_move (v := .int _ _) rfl) rfl ?_
  refine p_nil (x_then (s_block ?_))
  refine s_loopK (α := Nat) (ks := [some hb, k]) (ps := [Ex _ _, Rw _ _ _ _ _]) [(0, .pointer _), (7, .slice _ _ _), (8, .int _ _)] ⟨rfl, rfl, rfl, trivial⟩ S (fun keep ks ps g f' w' => ∃ u Kk Ck, f' = upds u ((9, .int .i64 (g : Int)) :: keep) ∧ (g ≤ n) ∧ St w0 w' (exOf [some hb, k]) [some hb, Kk] [penE Kk Ck (l ++ nums (xs.take g)), Rw 5 1 ((l ++ nums (xs.take g)).length) Ck (bv (l ++ nums (xs.take g)))]) (fun g => n - g) (0) (⟨_, _, _, upds_eq ⟨rfl, rfl, rfl, rfl, trivial⟩, by omega, by simpa [nums] using S⟩) ?_
  rintro g f w ⟨u, Kk, Ck, rfl, hg, S⟩
  have hnl := nums_len (xs.take g)
  have htl : (xs.take g).length = g := by rw [List.length_take]; omega
  refine s_seq (s_plain ?_)
  refine p_val (e_lss rfl rfl) rfl ?_
  refine p_nil (x_then (s_seq ?_))
  refine s_cond rfl (fun hc10 => ?_) (fun hc10 => ?_)
  · refine s_skip (x_then (s_seq (s_block (s_seq (s_plain ?_)))))
    refine p_val (e_ixR (S.rdOff R oR) (by decide) rfl rfl Try.underlying128 sz3 (by omega)) rfl ?_
    refine p_val (e_loadRi rfl ag3 (S.rdOff R oR) (by omega)) rfl ?_
    refine p_val (e_assign (v := .int _ _) rfl) rfl ?_
    refine p_nil (x_then (s_plain ?_))
    refine p_val (e_move (v := .pointer _) rfl) rfl ?_
    refine p_val (e_move (v := .int _ _) rfl) rfl ?_
    refine p_does (d_call Try.func90 nm90 rfl rfl (pen_num _ _ _ _ _ _ (S.hr [0, 1] rfl) (by simp only [List.length_append]; omega))) rfl ?_
    rintro _ w ⟨rfl, k15, c15, T⟩
    have S := (S.call [0, 1] T rfl).pk [0, 1] rfl
    refine p_nil (x_in (x_then (s_plain ?_)))
    refine p_val (e_add64 rfl rfl (by omega)) rfl ?_
    refine p_val (e_move (v := .int _ _) rfl) rfl ?_
    refine p_nil ?_
    have e1 : l ++ nums (xs.take g) ++ num (xs.getD (g : Int).toNat 0) = l ++ nums (xs.take (g + 1)) := by rw [nums_take xs (show g < xs.length by omega), Int.toNat_natCast, List.append_assoc]
    rw [e1] at S
    refine x_round (g + 1) _ rfl ⟨_, _, _, upds_eq ⟨rfl, rfl, rfl, rfl, trivial⟩, by first | omega | rfl | with_reducible assumption | (simp; done) | (simp; omega), S⟩ (by omega)
  · refine s_exit (x_then_exit (x_then_exit (x_in_same (x_then (s_seq (s_plain ?_))))))
    refine p_val (e_move (v := .pointer _) rfl) rfl ?_
    refine p_val (e_assign (v := .pointer _) rfl) rfl ?_
    refine p_nil (x_then (s_ret ?_))
    exact post1 (v := .pointer _) Try.results64 rfl (⟨rfl, _, _, by obtain rfl : g = n := (by omega); rw [List.take_of_length_le (by omega)] at S; exact S⟩)
theorem pen_text (w0 : World) (hb : Nat) (k : Option Nat) (c : Nat) (l : List Nat) (s : List Nat) (A : Option Addr) (n c1 : Nat) (S0 : St w0 w0 (exOf [some hb, k]) [some hb, k] [penE k c l, penR c l]) (R : Rd w0 1 A n (bv s)) (oR : Off A n (exOf [some hb, k])) (hl : l.length + n ≤ 1099511000000) :
    Ret Try.prog 66 [.pointer (some ⟨hb, 0, none⟩), .slice A n c1] w0 fun v w' => v = .pointer (some ⟨hb, 0, none⟩) ∧ ∃ k' c', St w0 w' (exOf [some hb, k]) [some hb, k'] [penE k' c' (l ++ num s.length ++ s), penR c' (l ++ num s.length ++ s)] := by
  refine enter Try.func66 rfl Try.ntmps66 (Nat.le_of_ble_eq_true rfl) ?_
  have S := S0
  have hxl : s.length = n := by simpa using R.1
  subst hxl
  have hna := num_len s.length
  refine s_seq (s_plain ?_)
  refine p_val (e_assign (v := .pointer _) rfl) rfl ?_
  refine p_nil (x_then (s_seq (s_seq (s_plain ?_))))
  refine p_val (e_move (v := .pointer _) rfl) rfl ?_
  refine p_val (e_eqlP rfl rfl Try.underlying99) rfl ?_
  refine p_nil (x_then ?_)
  refine s_condb rfl (fun hc6 => ?_) (fun hc6 => ?_)
  · exact False.elim (by simp at hc6)
  · refine s_skip (x_then (s_seq (s_plain ?_)))
    refine p_val (e_move (v := .pointer _) rfl) rfl ?_
    refine p_val (e_move (v := .slice _ _ _) rfl) rfl ?_
    refine p_val (e_len rfl Try.underlying33) rfl ?_
    refine p_does (d_call Try.func90 nm90 rfl rfl (pen_num _ _ _ _ _ _ (S.hr [0, 1] rfl) (by first | omega | (simp only [List.length_append, List.length_cons, List.length_nil, bv_length]; omega) | (simp [cat]; omega)))) rfl ?_
    rintro _ w ⟨rfl, k11, c11, T⟩
    have S := (S.call [0, 1] T rfl).pk [0, 1] rfl
    refine p_nil (x_then (s_seq (s_plain ?_)))
    refine p_val (e_move (v := .pointer _) rfl) rfl ?_
    refine p_val (e_move (v := .pointer _) rfl) rfl ?_
    refine p_val (e_nil rfl rfl) rfl ?_
    refine p_val (e_field rfl Try.underlying98 rfl sz33 (by decide)) rfl ?_
    refine p_val (e_loadF1 (i := 0) (off := 0) rfl ag33 S (j := 0) rfl rfl rfl (by first | with_reducible assumption | (simp [cat]; done) | (simp [cat]; omega) | rfl)) rfl ?_
    refine p_val (e_move (v := .slice _ _ _) rfl) rfl ?_
    refine p_does (d_append S 1 rfl rfl Try.underlying33 el5 rfl rfl (S.rdOff R oR) (by first | exact bv_one _ | exact sv_one _ | exact iv_one _ | with_reducible assumption | (refine One.mem ?_; repeat (first | exact One.bv _ | exact One.sv _ | exact One.iv _ | exact One.nil | exact One.cat0 | refine One.cat1 ?_ ?_ | refine One.cons rfl ?_ | refine One.append ?_ ?_))) (by first | omega | (simp only [List.length_append, List.length_cons, List.length_nil, bv_length]; omega) | (simp [cat]; omega)) (by unfold maxLen; first | omega | (simp only [List.length_append, List.length_cons, List.length_nil, bv_length]; omega))) rfl ?_
    rintro _ w ⟨k18, c18, rfl, S⟩
    refine p_val (e_nil rfl rfl) rfl ?_
    refine p_val (e_field rfl Try.underlying98 rfl sz33 (by decide)) rfl ?_
    refine p_does (d_storeF1 (v := .slice _ _ _) (off := 0) S 0 0 rfl rfl rfl sz33 rfl rfl rfl (by first | with_reducible assumption | (simp [cat]; done) | (simp [cat]; omega) | rfl)) rfl ?_
    intro _ w S
    refine p_nil (x_then (s_seq (s_plain ?_)))
    refine p_val (e_move (v := .pointer _) rfl) rfl ?_
    refine p_val (e_assign (v := .pointer _) rfl) rfl ?_
    refine p_nil (x_then (s_ret ?_))
    exact post1 (v := .pointer _) Try.results66 rfl (⟨rfl, _, _, (S.pk [0, 1] rfl).pen (by simp [bv])⟩)
theorem pen_sum (w0 : World) (hb : Nat) (k : Option Nat) (c : Nat) (l : List Nat) (s : List Nat) (S0 : St w0 w0 (exOf [some hb, k]) [some hb, k] [penE k c l, penR c l]) (hs : s.length = 32) (hl : l.length ≤ 1099511000000) :
    Ret Try.prog 65 [.pointer (some ⟨hb, 0, none⟩), .agg (bv s).toArray] w0 fun v w' => v = .pointer (some ⟨hb, 0, none⟩) ∧ ∃ k' c', St w0 w' (exOf [some hb, k]) [some hb, k'] [penE k' c' (l ++ s), penR c' (l ++ s)] := by
  refine enter Try.func65 rfl Try.ntmps65 (Nat.le_of_ble_eq_true rfl) ?_
  have S := S0
  refine s_seq (s_plain ?_)
  refine p_does (d_boxA S rfl) rfl ?_
  rintro _ w ⟨b3, rfl, S⟩
  refine p_val (e_assign (v := .pointer _) rfl) rfl ?_
  refine p_nil (x_then (s_seq (s_seq (s_plain ?_))))
  refine p_val (e_move (v := .pointer _) rfl) rfl ?_
  refine p_val (e_neqP rfl rfl Try.underlying99) rfl ?_
  refine p_nil (x_then ?_)
  refine s_condb rfl (fun hc6 => ?_) (fun hc6 => ?_)
  · refine s_drawK (ks := [some b3, some hb]) (ps := [Ex _ _, Ex _ _]) (S.pk [0, 1] rfl) [(true, 0), (true, 1), (true, 2), (true, 3), (true, 4), (true, 5), (false, 6), (true, 7)] [8] [8, 9] mixed (by kernel_rfl) (by repeat (first | exact Calm.post _ _ _ | refine Calm.then ?_ _ | refine Calm.inB ?_ _)) (fun hS => ?_)
    have S := S.drew
    refine q_val (fun w hS => e_move (v := .pointer _) rfl) rfl hS ?_
    refine q_val (fun w hS => e_move (v := .pointer _) rfl) rfl hS ?_
    refine q_val (fun w hS => e_nil rfl rfl) rfl hS ?_
    refine q_val (fun w hS => e_field rfl Try.underlying98 rfl sz33 (by decide)) rfl hS ?_
    refine q_val (fun w hS => e_loadF1 (i := 0) (off := 0) rfl ag33 hS (j := 1) rfl rfl rfl (by first | with_reducible assumption | (simp [cat, hs]; done) | (simp [cat, hs]; omega) | rfl)) rfl hS ?_
    refine q_val (fun w hS => e_sl_arr rfl Try.underlying29 sz5) rfl hS ?_
    refine q_does (d_append S 2 rfl rfl Try.underlying33 el5 rfl rfl (S.rdBytes 0 rfl rfl (by first | with_reducible assumption | (simp [cat, hs]; done) | (simp [cat, hs]; omega) | rfl)) (by first | exact bv_one _ | exact sv_one _ | exact iv_one _ | with_reducible assumption | (refine One.mem ?_; repeat (first | exact One.bv _ | exact One.sv _ | exact One.iv _ | exact One.nil | exact One.cat0 | refine One.cat1 ?_ ?_ | refine One.cons rfl ?_ | refine One.append ?_ ?_))) (by first | omega | (simp only [List.length_append, List.length_cons, List.length_nil, bv_length, hs]; omega) | (simp [cat, hs]; omega)) (by unfold maxLen; first | omega | (simp only [List.length_append, List.length_cons, List.length_nil, bv_length, hs]; omega))) rfl ?_
    rintro _ w ⟨k13, c13, rfl, S⟩
    have hS := S.pk [0, 1] rfl
    refine ⟨hS, ?_⟩
    refine q_val (fun w hS => e_nil rfl rfl) rfl hS ?_
    refine q_nil ?_
    refine p_val (e_field rfl Try.underlying98 rfl sz33 (by decide)) rfl ?_
    refine p_does (d_storeF1 (v := .slice _ _ _) (off := 0) S 1 0 rfl rfl rfl sz33 rfl rfl rfl (by first | with_reducible assumption | (simp [cat, hs]; done) | (simp [cat, hs]; omega) | rfl)) rfl ?_
    intro _ w S
    refine p_nil (x_then (s_seq (s_plain ?_)))
    refine p_val (e_move (v := .pointer _) rfl) rfl ?_
    refine p_val (e_assign (v := .pointer _) rfl) rfl ?_
    refine p_nil (x_then (s_ret ?_))
    exact post1 (v := .pointer _) Try.results65 rfl (⟨rfl, _, _, (S.pk [1, 2] rfl).pen (by simp [bv])⟩)
  · exact False.elim (by simp at hc6)
theorem pen_bytes (w0 : World) (hb : Nat) (k : Option Nat) (c : Nat) (l : List Nat) (hh : w0.heap[hb]? = some (.cells (cat [[.slice (at_ k) l.length c]]).toArray 98 (0, 0))) (R : Rd w0 1 (at_ k) l.length (bv l)) (hl : l.length ≤ 1099511000000) :
    Ret Try.prog 67 [.pointer (some ⟨hb, 0, none⟩)] w0 fun v w' => ∃ k2 c2, v = .slice (at_ k2) l.length c2 ∧ St w0 w' [] [k2] [Rw 5 1 l.length c2 (bv l)] := by
  refine enter Try.func67 rfl Try.ntmps67 (Nat.le_of_ble_eq_true rfl) ?_
  have S := St.init w0
  refine s_seq (s_plain ?_)
  refine p_val (e_assign (v := .slice _ _ _) rfl) rfl ?_
  refine p_nil (x_then (s_seq (s_seq (s_plain ?_))))
  refine p_val (e_move (v := .pointer _) rfl) rfl ?_
  refine p_val (e_eqlP rfl rfl Try.underlying99) rfl ?_
  refine p_nil (x_then ?_)
  refine s_condb rfl (fun hc4 => ?_) (fun hc4 => ?_)
  · exact False.elim (by simp at hc4)
  · refine s_skip (x_then (s_seq (s_plain ?_)))
    refine p_val (e_move (v := .pointer _) rfl) rfl ?_
    refine p_val (e_nil rfl rfl) rfl ?_
    refine p_val (e_field rfl Try.underlying98 rfl sz33 (by decide)) rfl ?_
    refine p_val (e_load rfl ag33 (S.oldCell hh (by simp) 0)) rfl ?_
    have S := S.addNil 5 1
    refine p_does (d_append S 0 rfl rfl Try.underlying33 el5 rfl rfl (S.rdOld R rfl) (by first | exact bv_one _ | exact sv_one _ | exact iv_one _ | with_reducible assumption | (refine One.mem ?_; repeat (first | exact One.bv _ | exact One.sv _ | exact One.iv _ | exact One.nil | exact One.cat0 | refine One.cat1 ?_ ?_ | refine One.cons rfl ?_ | refine One.append ?_ ?_))) (by omega) (by unfold maxLen; first | omega | (simp only [List.length_append, List.length_cons, List.length_nil, bv_length]; omega))) rfl ?_
    rintro _ w ⟨k9, c9, rfl, S⟩
    refine p_val (e_assign (v := .slice _ _ _) rfl) rfl ?_
    refine p_nil (x_then (s_ret ?_))
    exact post1 (v := .slice _ _ _) Try.results67 rfl (by have S := S.pk [0] rfl; rw [Nat.zero_add] at *; exact ⟨_, _, rfl, S⟩)
end Go.Proofs.Ytdhfiamgmokfbaa

/- A key's signature, walked. It proves no statement by itself. -/
set_option linter.unusedSimpArgs false
set_option linter.unusedVariables false
set_option maxRecDepth 100000
set_option maxHeartbeats 1000000
namespace Go.Proofs.Ytdhfiamgmokfbaa
open Go Go.RowKit E
attribute [local irreducible] wpList seqH treeH
def msigB (s : List Nat) (L : List (List Nat)) (x : Nat) (g : Nat) : List Nat := nums [(x : Int), (L.length : Int), ((mpath L (x : Int)).length : Int)] ++ ((mpath L (x : Int)).take g).flatten
def msig (s : List Nat) (L : List (List Nat)) (x : Nat) (l : List Nat) : List Nat := msigB s L x (mpath L (x : Int)).length ++ num 4096 ++ lsig (mseed s (x : Int)) l
theorem flat32 : ∀ {P : List (List Nat)}, All32 P → P.flatten.length = 32 * P.length
  | [], _ => rfl
  | a :: P, h => by
    rw [List.flatten_cons, List.length_append, flat32 (P := P) (fun y hy => h y (by simp [hy])), h a (by simp), List.length_cons]; omega
theorem msigB_len {s : List Nat} {L : List (List Nat)} {x g : Nat} (hg : g ≤ (mpath L (x : Int)).length) : (msigB s L x g).length ≤ 30 + 32 * g := by
  have h1 := nums_len [(x : Int), (L.length : Int), ((mpath L (x : Int)).length : Int)]
  have h2 := flat32 ((mpath_all L (x : Int)).take g)
  unfold msigB
  rw [List.length_append, h2, List.length_take]
  simp only [List.length_cons, List.length_nil] at h1
  omega
theorem mn_sign (w0 : World) (hb : Nat) (k : Option Nat) (c : Nat) (s : List Nat) (x : Nat) (L : List (List Nat)) (A : Option Addr) (n0 c0 : Nat) (l : List Nat) (S0 : St w0 w0 (exOf [some hb, k]) [some hb, k] [keyE k L.length c s (x : Int), keyR L.length c L]) (hs : s.length = 32) (hL : All32 L) (hn : L.length ≤ 64) (hx : x < L.length) (R : Rd w0 1 A n0 (bv l)) (oR : Off A n0 (exOf [some hb, k])) (hl : n0 ≤ 1099511000000) :
    Ret Try.prog 62 [.pointer (some ⟨hb, 0, none⟩), .slice A n0 c0] w0 fun v w' => ∃ k2 c2, v = .tuple #[.slice (at_ k2) (msig s L x l).length c2, .int .i64 0] ∧ St w0 w' (exOf [some hb, k]) [k2, some hb, k] [Rw 5 1 (msig s L x l).length c2 (bv (msig s L x l)), keyE k L.length c s ((x : Int) + 1), keyR L.length c L] := by
  refine enter Try.func62 rfl Try.ntmps62 (Nat.le_of_ble_eq_true rfl) ?_
  have S := S0
  have hpl := mpath_len L (x : Int)
  have hma := mpath_all L (x : Int)
  refine s_seq (s_plain ?_)
  refine p_val (e_assign (v := .slice _ _ _) rfl) rfl ?_
  refine p_val (e_assign (v := .int _ _) rfl) rfl ?_
  refine p_nil (x_then (s_seq (s_seq (s_plain ?_))))
  refine p_val (e_move (v := .pointer _) rfl) rfl ?_
  refine p_does (d_call Try.func63 nm63 rfl rfl (mn_left _ _ _ _ _ _ _ _ (S.hr [0, 1] rfl) (by first | with_reducible assumption | (rw [bv_length]; with_reducible assumption) | (rw [List.size_toArray, bv_length]; with_reducible assumption) | (simp [cat, hs, Value.cells, length_mseed]; done) | (simp [cat, hs, Value.cells, length_mseed]; omega) | rfl) (by omega) (by omega))) rfl ?_
  rintro _ w ⟨rfl, T⟩
  have S := (S.call [0, 1] T rfl).pk [0, 1] rfl
  refine p_val (e_eql rfl rfl) rfl ?_
  refine p_nil (x_then ?_)
  refine s_cond rfl (fun hc14 => ?_) (fun hc14 => ?_)
  · exact False.elim (by omega)
  · refine s_skip (x_then (s_seq (s_plain ?_)))
    refine p_val (e_move (v := .pointer _) rfl) rfl ?_
    refine p_val (e_nil rfl rfl) rfl ?_
    refine p_val (e_field rfl Try.underlying127 rfl sz3 (by decide)) rfl ?_
    refine p_val (e_loadF1 (i := 2) (off := 33) rfl ag3 S (j := 0) rfl rfl rfl (by first | with_reducible assumption | (rw [bv_length]; with_reducible assumption) | (rw [List.size_toArray, bv_length]; with_reducible assumption) | (simp [cat, hs, Value.cells, length_mseed]; done) | (simp [cat, hs, Value.cells, length_mseed]; omega) | rfl)) rfl ?_
    refine p_val (e_assign (v := .int _ _) rfl) rfl ?_
    refine p_nil (x_then (s_seq (s_plain ?_)))
    refine p_val (e_move (v := .pointer _) rfl) rfl ?_
    refine p_val (e_nil rfl rfl) rfl ?_
    refine p_val (e_field rfl Try.underlying127 rfl sz3 (by decide)) rfl ?_
    refine p_val (e_loadF1 (i := 2) (off := 33) rfl ag3 S (j := 0) rfl rfl rfl (by first | with_reducible assumption | (rw [bv_length]; with_reducible assumption) | (rw [List.size_toArray, bv_length]; with_reducible assumption) | (simp [cat, hs, Value.cells, length_mseed]; done) | (simp [cat, hs, Value.cells, length_mseed]; omega) | rfl)) rfl ?_
    refine p_val (e_add64 rfl rfl (by omega)) rfl ?_
    refine p_val (e_nil rfl rfl) rfl ?_
    refine p_val (e_field rfl Try.underlying127 rfl sz3 (by decide)) rfl ?_
    refine p_does (d_storeF1 (v := .int _ _) (off := 33) S 0 2 rfl rfl rfl sz3 rfl rfl rfl (by first | with_reducible assumption | (rw [bv_length]; with_reducible assumption) | (rw [List.size_toArray, bv_length]; with_reducible assumption) | (simp [cat, hs, Value.cells, length_mseed]; done) | (simp [cat, hs, Value.cells, length_mseed]; omega) | rfl)) rfl ?_
    intro _ w S
    refine p_nil (x_then (s_seq (s_plain ?_)))
    refine p_val (e_move (v := .int _ _) rfl) rfl ?_
    refine p_val (e_move (v := .pointer _) rfl) rfl ?_
    refine p_val (e_nil rfl rfl) rfl ?_
    refine p_val (e_field rfl Try.underlying127 rfl sz24 (by decide)) rfl ?_
    refine p_val (e_loadF1 (i := 1) (off := 32) rfl ag24 S (j := 0) rfl rfl rfl (by first | with_reducible assumption | (rw [bv_length]; with_reducible assumption) | (rw [List.size_toArray, bv_length]; with_reducible assumption) | (simp [cat, hs, Value.cells, length_mseed]; done) | (simp [cat, hs, Value.cells, length_mseed]; omega) | rfl)) rfl ?_
    refine p_does (d_call Try.func41 nm41 rfl rfl (mk_path _ _ _ _ _ (S.rdRw 1 rfl rfl) (by with_reducible assumption) (by omega))) rfl ?_
    rintro _ w ⟨k32, c32, rfl, T⟩
    have S := S.merge T rfl
    refine p_val (e_move (v := .tuple _) rfl) rfl ?_
    refine p_val (e_extract rfl rfl) rfl ?_
    refine p_val (e_extract rfl rfl) rfl ?_
    refine p_val (e_assign (v := .slice _ _ _) rfl) rfl ?_
    refine p_val (e_assign (v := .bool _) rfl) rfl ?_
    refine p_nil (x_then (s_seq (s_plain ?_)))
    refine p_does (d_allocA S zs98) rfl ?_
    rintro _ w ⟨b9, rfl, S⟩
    have S := pen_new S
    refine p_nil (x_then (s_seq (s_plain ?_)))
    refine p_val (e_move (v := .int _ _) rfl) rfl ?_
    refine p_val (e_move (v := .pointer _) rfl) rfl ?_
    refine p_val (e_nil rfl rfl) rfl ?_
    refine p_val (e_field rfl Try.underlying127 rfl sz24 (by decide)) rfl ?_
    refine p_val (e_loadF1 (i := 1) (off := 32) rfl ag24 S (j := 3) rfl rfl rfl (by first | with_reducible assumption | (rw [bv_length]; with_reducible assumption) | (rw [List.size_toArray, bv_length]; with_reducible assumption) | (simp [cat, hs, Value.cells, length_mseed]; done) | (simp [cat, hs, Value.cells, length_mseed]; omega) | rfl)) rfl ?_
    refine p_val (e_len rfl Try.underlying24) rfl ?_
    refine p_val (e_move (v := .slice _ _ _) rfl) rfl ?_
    refine p_val (e_len rfl Try.underlying24) rfl ?_
    refine p_does (d_litI S Try.underlying128 sz3 zv3 rfl (l := [_, _, _]) rfl rfl (by decide)) rfl ?_
    rintro _ w ⟨b43, rfl, S⟩
    refine p_does (d_call Try.func64 nm64 rfl rfl (pen_nums _ _ _ _ _ _ _ _ _ (S.hr [1, 2] rfl) (S.rdRw 0 rfl rfl) (S.offRow 0 [1, 2] rfl rfl) (by first | omega | (simp only [List.length_append, List.length_cons, List.length_nil, bv_length, hs, Value.cells, length_mseed]; omega) | (simp [cat, hs, Value.cells, length_mseed]; omega)) (by decide))) rfl ?_
    rintro _ w ⟨rfl, k44, c44, T⟩
    have S := (S.call [1, 2] T rfl).pk [2, 0, 1, 5, 6, 7] rfl
    refine p_nil (x_then (s_seq (s_seq (s_plain ?_))))
    refine p_val (e_move (v := .slice _ _ _) rfl) rfl ?_
    refine p_val (e_len rfl Try.underlying24) rfl ?_
    refine p_val (e_move (v := .int _ _) rfl) rfl ?_
    refine p_nil (x_then (s_block ?_))
    refine s_loopK (α := Nat) (ks := [some b43, some b9, k44, k32, some hb, k]) (ps := [Rw _ _ _ _ _, Ex _ _, Rw _ _ _ _ _, Rw _ _ _ _ _, Ex _ _, Rw _ _ _ _ _]) [(0, .pointer _), (1, .slice _ _ _), (6, .int _ _), (9, .pointer _), (45, .slice _ _ _), (46, .int _ _)] ⟨rfl, rfl, rfl, rfl, rfl, rfl, trivial⟩ S (fun keep ks ps g f' w' => ∃ u Kp9 Cp9 q, f' = upds u ((47, .int .i64 (g : Int)) :: keep) ∧ (g ≤ (mpath L (x : Int)).length) ∧ (q = msigB s L x g) ∧ St w0 w' (exOf [some hb, k]) [some b43, some b9, Kp9, k32, some hb, k] [(ps.getD 0 fun _ => True), penE Kp9 Cp9 q, Rw 5 1 ((List.length q)) Cp9 (bv q), (ps.getD 3 fun _ => True), (ps.getD 4 fun _ => True), (ps.getD 5 fun _ => True)]) (fun g => (mpath L (x : Int)).length - g) (0) (⟨_, _, _, _, upds_eq ⟨rfl, rfl, rfl, rfl, rfl, rfl, rfl, trivial⟩, by first | omega | rfl | with_reducible assumption | (simp; done) | (simp; omega), by simp [msigB], S⟩) ?_
    rintro g f w ⟨u, Kp9, Cp9, q, rfl, hg, rfl, S⟩
    have hql := msigB_len (s := s) hg
    refine s_seq (s_plain ?_)
    refine p_val (e_lss rfl rfl) rfl ?_
    refine p_nil (x_then (s_seq ?_))
    refine s_cond rfl (fun hc48 => ?_) (fun hc48 => ?_)
    · refine s_skip (x_then (s_seq (s_block (s_seq (s_plain ?_)))))
      have hg32 : ((mpath L (x : Int)).getD (g : Int).toNat []).length = 32 := hma.getD (by omega)
      refine p_val (e_ixR (S.rdRw 3 rfl rfl) (by decide) rfl rfl Try.underlying24 sz29 (by omega)) rfl ?_
      refine p_val (e_loadRA rfl ag29 sz29 (by decide) (Rd.sumA (S.rdRw 3 rfl rfl) (by with_reducible assumption) (by omega))) rfl ?_
      refine p_does (d_allocA S zvS) rfl ?_
      rintro _ w ⟨b11, rfl, S⟩
      refine p_does (d_storeW S 0 rfl rfl (by first | exact bv_one _ | exact sv_one _ | exact iv_one _ | with_reducible assumption | (refine One.mem ?_; repeat (first | exact One.bv _ | exact One.sv _ | exact One.iv _ | exact One.nil | exact One.cat0 | refine One.cat1 ?_ ?_ | refine One.cons rfl ?_ | refine One.append ?_ ?_))) sz29 (by first | with_reducible assumption | (rw [bv_length]; with_reducible assumption) | (rw [List.size_toArray, bv_length]; with_reducible assumption) | (simp [cat, hs, Value.cells, length_mseed]; done) | (simp [cat, hs, Value.cells, length_mseed]; omega) | rfl) rfl rfl (by first | with_reducible assumption | (rw [bv_length]; with_reducible assumption) | (rw [List.size_toArray, bv_length]; with_reducible assumption) | (simp [cat, hs, Value.cells, length_mseed]; done) | (simp [cat, hs, Value.cells, length_mseed]; omega) | rfl)) rfl ?_
      intro _ w S
      refine p_nil (x_then (s_plain ?_))
      refine p_val (e_loadW 0 rfl ag29 sz29 S rfl rfl (by first | with_reducible assumption | (rw [bv_length]; with_reducible assumption) | (rw [List.size_toArray, bv_length]; with_reducible assumption) | (simp [cat, hs, Value.cells, length_mseed]; done) | (simp [cat, hs, Value.cells, length_mseed]; omega) | rfl)) rfl ?_
      refine p_does (d_call Try.func65 nm65 rfl rfl (pen_sum _ _ _ _ _ _ (S.hr [2, 3] rfl) (by first | with_reducible assumption | (rw [bv_length]; with_reducible assumption) | (rw [List.size_toArray, bv_length]; with_reducible assumption) | (simp [cat, hs, Value.cells, length_mseed]; done) | (simp [cat, hs, Value.cells, length_mseed]; omega) | rfl) (by first | omega | (simp only [List.length_append, List.length_cons, List.length_nil, bv_length, hs, Value.cells, length_mseed]; omega) | (simp [cat, hs, Value.cells, length_mseed]; omega)))) rfl ?_
      rintro _ w ⟨rfl, k52, c52, T⟩
      have S := (S.call [2, 3] T rfl).pk [2, 3, 0, 1, 6, 7, 8] rfl
      refine p_nil (x_in (x_then (s_plain ?_)))
      refine p_val (e_add64 rfl rfl (by omega)) rfl ?_
      refine p_val (e_move (v := .int _ _) rfl) rfl ?_
      refine p_nil ?_
      refine x_round (g + 1) _ rfl ⟨_, _, _, _, upds_eq ⟨rfl, rfl, rfl, rfl, rfl, rfl, rfl, trivial⟩, by first | omega | rfl | with_reducible assumption | (simp; done) | (simp; omega), by unfold msigB; rw [take_getD (by omega), List.flatten_append, ← List.append_assoc]; simp, S.pk [1, 2, 3, 4, 5, 6] rfl⟩ (by omega)
    · refine s_exit (x_then_exit (x_then_exit (x_in_same (x_then (s_seq (s_plain ?_))))))
      refine p_val (e_move (v := .pointer _) rfl) rfl ?_
      refine p_val (e_nil rfl rfl) rfl ?_
      refine p_val (e_field rfl Try.underlying127 rfl sz29 (by decide)) rfl ?_
      refine p_val (e_loadFA (i := 0) (off := 0) rfl ag29 sz29 (by decide) S (j := 4) rfl rfl rfl (by first | with_reducible assumption | (rw [bv_length]; with_reducible assumption) | (rw [List.size_toArray, bv_length]; with_reducible assumption) | (simp [cat, hs, Value.cells, length_mseed]; done) | (simp [cat, hs, Value.cells, length_mseed]; omega) | rfl) (by first | with_reducible assumption | (rw [bv_length]; with_reducible assumption) | (rw [List.size_toArray, bv_length]; with_reducible assumption) | (simp [cat, hs, Value.cells, length_mseed]; done) | (simp [cat, hs, Value.cells, length_mseed]; omega) | rfl)) rfl ?_
      refine p_val (e_move (v := .int _ _) rfl) rfl ?_
      refine p_does (d_call Try.func71 nm71 rfl rfl (mn_seed _ _ _ (by first | with_reducible assumption | (rw [bv_length]; with_reducible assumption) | (rw [List.size_toArray, bv_length]; with_reducible assumption) | (simp [cat, hs, Value.cells, length_mseed]; done) | (simp [cat, hs, Value.cells, length_mseed]; omega) | rfl))) rfl ?_
      rintro _ w ⟨rfl, hB⟩
      have S := S.below hB
      refine p_val (e_move (v := .slice _ _ _) rfl) rfl ?_
      refine p_does (d_call Try.func29 nm29 rfl rfl (lsign_calls _ _ _ _ _ _ (by first | with_reducible assumption | (rw [bv_length]; with_reducible assumption) | (rw [List.size_toArray, bv_length]; with_reducible assumption) | (simp [cat, hs, Value.cells, length_mseed]; done) | (simp [cat, hs, Value.cells, length_mseed]; omega) | rfl) (S.rdOff R oR) (by omega))) rfl ?_
      rintro _ w ⟨k61, c61, rfl, T⟩
      have S := S.merge T rfl
      refine p_does (d_call Try.func66 nm66 rfl rfl (pen_text _ _ _ _ _ _ _ _ _ (S.hr [2, 3] rfl) (S.rdRw 0 rfl rfl) (S.offRow 0 [2, 3] rfl rfl) (by first | omega | (simp only [List.length_append, List.length_cons, List.length_nil, bv_length, hs, Value.cells, length_mseed]; omega) | (simp [cat, hs, Value.cells, length_mseed]; omega)))) rfl ?_
      rintro _ w ⟨rfl, k62, c62, T⟩
      have S := (S.call [2, 3] T rfl).pk [2, 3, 0, 1, 6, 7, 8] rfl
      refine p_nil (x_then (s_seq (s_plain ?_)))
      have hnum := num_len ((lsig (mseed s (x : Int)) l).length : Int)
      have hsg := length_lsig (mseed s (x : Int)) l
      refine p_does (d_call Try.func67 nm67 rfl rfl (pen_bytes _ _ _ _ _ (S.exact_ 2 rfl rfl) (S.rdRw 3 rfl rfl) (by first | omega | (simp only [List.length_append, List.length_cons, List.length_nil, bv_length, hs, Value.cells, length_mseed]; omega) | (simp [cat, hs, Value.cells, length_mseed]; omega)))) rfl ?_
      rintro _ w ⟨k63, c63, rfl, T⟩
      have S := S.merge T rfl
      refine p_val (e_assign (v := .slice _ _ _) rfl) rfl ?_
      refine p_val (e_assign (v := .int _ _) rfl) rfl ?_
      refine p_nil (x_then (s_ret ?_))
      exact post2 (v := .slice _ _ _) (x := .int _ _) Try.results62 rfl rfl (by obtain rfl : g = (mpath L (x : Int)).length := (by omega); have e9 : msigB s L x (mpath L (x : Int)).length ++ num ((lsig (mseed s (x : Int)) l).length : Int) ++ lsig (mseed s (x : Int)) l = msig s L x l := by { unfold msig; rw [hsg]; rfl }; rw [e9] at S; exact ⟨k63, c63, by rw [e9], S.pk [0, 6, 7] rfl⟩)
end Go.Proofs.Ytdhfiamgmokfbaa

/- What a path leads to, and that no path of another length leads anywhere. It proves no statement by itself. -/
set_option linter.unusedSimpArgs false
set_option linter.unusedVariables false
namespace Go.Proofs.Ytdhfiamgmokfbaa
open Go Go.RowKit E
theorem sidx_add2 (b : Nat) : sidx (b + 2) = sidx b + 2 := by
  unfold sidx
  split <;> split <;> omega
theorem upL_getD : ∀ (l : List (List Nat)) (b : Nat), b < l.length → (upL l).getD (b / 2) [] = if sidx b < l.length then (if b % 2 = 0 then mpair (l.getD b []) (l.getD (sidx b) []) else mpair (l.getD (sidx b) []) (l.getD b [])) else l.getD b []
  | [], b, h => by simp at h
  | [x], b, h => by
    obtain rfl : b = 0 := by simpa using h
    simp [upL, sidx]
  | x :: y :: l, 0, h => by simp [upL, sidx]
  | x :: y :: l, 1, h => by simp [upL, sidx]
  | x :: y :: l, b + 2, h => by
    have ih := upL_getD l b (by simp only [List.length_cons] at h; omega)
    rw [sidx_add2, show (b + 2) / 2 = b / 2 + 1 by omega, show (b + 2) % 2 = b % 2 by omega, upL, List.getD_cons_succ, ih]
    simp only [List.getD_cons_succ, List.length_cons, Nat.add_assoc, Nat.reduceAdd, Nat.add_lt_add_iff_right]
theorem climb_path : ∀ (m : Nat) (l : List (List Nat)) (b : Nat), l.length = m → b < l.length → climbC (l.getD b []) b l.length (pathI l b) = some (rootI l) := by
  intro m
  induction m using Nat.strongRecOn with
  | _ m ih =>
    intro l b hm hb
    by_cases h1 : l.length ≤ 1
    · have hb0 : b = 0 := by omega
      rw [pathI_one h1, climbC_end h1, rootI_head (by omega), hb0]
    · have e := upL_getD l b hb
      have hu := upL_length l
      have hi := ih (upL l).length (by omega) (upL l) (b / 2) rfl (by omega)
      rw [pathI_up h1, rootI_up h1]
      unfold sib
      by_cases hs : sidx b < l.length
      · rw [if_pos hs] at e
        rw [if_pos hs]
        show climbC _ b l.length (l.getD (sidx b) [] :: pathI (upL l) (b / 2)) = _
        rw [climbC_cons h1 hs, ← e, ← hu]
        exact hi
      · rw [if_neg hs] at e
        rw [if_neg hs, List.nil_append, climbC_no h1 hs, ← e, ← hu]
        exact hi
theorem climb_len : ∀ (m n b : Nat) (now now' : List Nat) (Q Q' : List (List Nat)) (x x' : List Nat), n = m → climbC now b n Q = some x → climbC now' b n Q' = some x' → Q.length = Q'.length := by
  intro m
  induction m using Nat.strongRecOn with
  | _ m ih =>
    intro n b now now' Q Q' x x' hm h h'
    by_cases h1 : n ≤ 1
    · rw [climbC_end h1] at h h'
      cases Q with
      | nil => cases Q' with
        | nil => rfl
        | cons _ _ => cases h'
      | cons _ _ => cases h
    · by_cases hs : sidx b < n
      · cases Q with
        | nil => rw [climbC_nil h1 hs] at h; cases h
        | cons q Q => cases Q' with
          | nil => rw [climbC_nil h1 hs] at h'; cases h'
          | cons q' Q' =>
            rw [climbC_cons h1 hs] at h h'
            have := ih ((n + 1) / 2) (by omega) _ _ _ _ _ _ _ _ rfl h h'
            simp only [List.length_cons, this]
      · rw [climbC_no h1 hs] at h h'
        exact ih ((n + 1) / 2) (by omega) _ _ _ _ _ _ _ _ rfl h h'
theorem mcheck_path {M : List (List Nat)} {i : Nat} (hi : i < M.length) (hn : M.length ≤ 4096) : mcheck (mroot M) (M.getD i []) (i : Int) (M.length : Int) (mpath M (i : Int)) := by
  refine ⟨by omega, by omega, by omega, ?_⟩
  have h := climb_path _ (M.map mleaf) i rfl (by simpa using hi)
  have e : (M.map mleaf).getD i [] = mleaf (M.getD i []) := by
    rw [List.getD_eq_getElem?_getD, List.getD_eq_getElem?_getD, List.getElem?_map, List.getElem?_eq_getElem hi]; rfl
  rw [e, List.length_map] at h
  rw [Int.toNat_natCast, Int.toNat_natCast]
  unfold mpath mroot
  rw [if_pos (by omega), if_neg (by omega), Int.toNat_natCast]
  exact h
theorem mcheck_no {M : List (List Nat)} {i : Nat} (hi : i < M.length) (hn : M.length ≤ 4096) {Q : List (List Nat)} (hq : ¬ Q.length = (mpath M (i : Int)).length) (r : List Nat) : ¬ mcheck r (M.getD i []) (i : Int) (M.length : Int) Q := fun h =>
  hq (climb_len _ _ _ _ _ _ _ _ _ rfl h.2.2.2 (mcheck_path hi hn).2.2.2)
theorem mk_check_n (w0 : World) (r s : List Nat) (a m : Int) (A : Option Addr) (n c : Nat) (P : List (List Nat)) (hn : P.length = n) (hr : r.length = 32) (hs : s.length = 32) (R : Rd w0 32 A n (sv P)) (hP0 : All32 P) (cR : n ≤ c) :
     Ret Try.prog 38 [.agg (bv r).toArray, .agg (bv s).toArray, .int .i64 a, .int .i64 m, .slice A n c] w0 fun v w' => v = .bool (decide (mcheck r s a m P)) ∧ Below w0.heap.size w0 w' := by
  subst hn; exact mk_check w0 r s a m A c P hr hs R hP0 cR
end Go.Proofs.Ytdhfiamgmokfbaa

/- Three results and more are read. It proves no statement by itself. -/
set_option linter.unusedSimpArgs false
set_option linter.unusedVariables false
namespace Go.Proofs.Ytdhfiamgmokfbaa.E
open Go Go.RowKit
section
variable {P : Program} {fn : Func} {R : Value → World → Prop} {n : Nat} {f : Nat → Value} {w : World}
theorem post3 {t1 t2 t3 : Tmp} {v1 v2 v3 : Value} (h : fn.results = #[.tmp t1, .tmp t2, .tmp t3]) (h1 : ev n f (.tmp t1) = v1) (h2 : ev n f (.tmp t2) = v2) (h3 : ev n f (.tmp t3) = v3) (hR : R (.tuple #[v1, v2, v3]) w) : Post P fn R .ret (F n f) w :=
  bodyPost_ret (v := .tuple #[v1, v2, v3]) (by rw [show (results fn (F n f).tmps).run P w = .ok (.tuple #[(F n f).tmps.getD t1 undef, (F n f).tmps.getD t2 undef, (F n f).tmps.getD t3 undef]) w from by simp [results, h]]; simp only [F_getD, ← h1, ← h2, ← h3]; rfl) rfl ⟨_, rfl, hR⟩
theorem post4 {t1 t2 t3 t4 : Tmp} {v1 v2 v3 v4 : Value} (h : fn.results = #[.tmp t1, .tmp t2, .tmp t3, .tmp t4]) (h1 : ev n f (.tmp t1) = v1) (h2 : ev n f (.tmp t2) = v2) (h3 : ev n f (.tmp t3) = v3) (h4 : ev n f (.tmp t4) = v4) (hR : R (.tuple #[v1, v2, v3, v4]) w) : Post P fn R .ret (F n f) w :=
  bodyPost_ret (v := .tuple #[v1, v2, v3, v4]) (by rw [show (results fn (F n f).tmps).run P w = .ok (.tuple #[(F n f).tmps.getD t1 undef, (F n f).tmps.getD t2 undef, (F n f).tmps.getD t3 undef, (F n f).tmps.getD t4 undef]) w from by simp [results, h]]; simp only [F_getD, ← h1, ← h2, ← h3, ← h4]; rfl) rfl ⟨_, rfl, hR⟩
theorem post5 {t1 t2 t3 t4 t5 : Tmp} {v1 v2 v3 v4 v5 : Value} (h : fn.results = #[.tmp t1, .tmp t2, .tmp t3, .tmp t4, .tmp t5]) (h1 : ev n f (.tmp t1) = v1) (h2 : ev n f (.tmp t2) = v2) (h3 : ev n f (.tmp t3) = v3) (h4 : ev n f (.tmp t4) = v4) (h5 : ev n f (.tmp t5) = v5) (hR : R (.tuple #[v1, v2, v3, v4, v5]) w) : Post P fn R .ret (F n f) w :=
  bodyPost_ret (v := .tuple #[v1, v2, v3, v4, v5]) (by rw [show (results fn (F n f).tmps).run P w = .ok (.tuple #[(F n f).tmps.getD t1 undef, (F n f).tmps.getD t2 undef, (F n f).tmps.getD t3 undef, (F n f).tmps.getD t4 undef, (F n f).tmps.getD t5 undef]) w from by simp [results, h]]; simp only [F_getD, ← h1, ← h2, ← h3, ← h4, ← h5]; rfl) rfl ⟨_, rfl, hR⟩
theorem post6 {t1 t2 t3 t4 t5 t6 : Tmp} {v1 v2 v3 v4 v5 v6 : Value} (h : fn.results = #[.tmp t1, .tmp t2, .tmp t3, .tmp t4, .tmp t5, .tmp t6]) (h1 : ev n f (.tmp t1) = v1) (h2 : ev n f (.tmp t2) = v2) (h3 : ev n f (.tmp t3) = v3) (h4 : ev n f (.tmp t4) = v4) (h5 : ev n f (.tmp t5) = v5) (h6 : ev n f (.tmp t6) = v6) (hR : R (.tuple #[v1, v2, v3, v4, v5, v6]) w) : Post P fn R .ret (F n f) w :=
  bodyPost_ret (v := .tuple #[v1, v2, v3, v4, v5, v6]) (by rw [show (results fn (F n f).tmps).run P w = .ok (.tuple #[(F n f).tmps.getD t1 undef, (F n f).tmps.getD t2 undef, (F n f).tmps.getD t3 undef, (F n f).tmps.getD t4 undef, (F n f).tmps.getD t5 undef, (F n f).tmps.getD t6 undef]) w from by simp [results, h]]; simp only [F_getD, ← h1, ← h2, ← h3, ← h4, ← h5, ← h6]; rfl) rfl ⟨_, rfl, hR⟩
end
end Go.Proofs.Ytdhfiamgmokfbaa.E

/- More on what reads. It proves no statement by itself. -/
set_option linter.unusedSimpArgs false
set_option linter.unusedVariables false
namespace Go.Proofs.Ytdhfiamgmokfbaa
open Go Go.RowKit E
theorem rUpto_le {m e a e1 : Int} {l l1 : List Nat} (hm : 0 ≤ m) (h : rUpto m e l = (a, e1, l1)) : a ≤ m := by
  unfold rUpto at h
  simp only [Prod.mk.injEq] at h
  obtain ⟨h1, h2, h3⟩ := h
  rw [h2] at h1
  split at h1
  · rename_i he
    split at h2
    · unfold rFail at h2
      split at h2
      · omega
      · omega
    · omega
  · omega
theorem rText_len {m e e1 : Int} {l s l1 : List Nat} (hm : 0 ≤ m) (h : rText m e l = (s, e1, l1)) : (s.length : Int) ≤ m := by
  have h1 := rUpto_le (m := m) (e := e) (l := l) hm (a := (rUpto m e l).1) (e1 := (rUpto m e l).2.1) (l1 := (rUpto m e l).2.2) rfl
  unfold rText at h
  rcases rRaw_len h with h2 | h2
  · subst h2; simpa using hm
  · omega
end Go.Proofs.Ytdhfiamgmokfbaa

/- What a key's signature says, walked; whether it is one, of a text, under a root. It proves no statement by itself. -/
set_option linter.unusedSimpArgs false
set_option linter.unusedVariables false
set_option maxRecDepth 100000
set_option maxHeartbeats 1000000
namespace Go.Proofs.Ytdhfiamgmokfbaa
open Go Go.RowKit E
attribute [local irreducible] wpList seqH treeH
def rPath : Nat → Int → List Nat → List (List Nat) × Int × List Nat
  | 0, e, l => ([], e, l)
  | n + 1, e, l => ((rPath n e l).1 ++ [(rSum (rPath n e l).2.1 (rPath n e l).2.2).1], (rSum (rPath n e l).2.1 (rPath n e l).2.2).2)
theorem rPath_len (e : Int) (l : List Nat) : ∀ n, (rPath n e l).1.length = n
  | 0 => rfl
  | n + 1 => by rw [rPath, List.length_append, rPath_len e l n]; rfl
theorem rPath_all (e : Int) (l : List Nat) : ∀ n, All32 (rPath n e l).1
  | 0 => by simp [rPath, All32]
  | n + 1 => by rw [rPath]; exact (rPath_all e l n).append (All32.single (length_sum32 _))
structure MSig where
  (a n : Int) (p : List (List Nat)) (o : List Nat) (e : Int)
def rSig (l : List Nat) : MSig :=
  let a := rUpto 64 0 l
  let b := rUpto 64 a.2.1 a.2.2
  let m := rUpto 8 b.2.1 b.2.2
  let p := rPath m.1.toNat m.2.1 m.2.2
  let o := rText 4096 p.2.1 p.2.2
  let e := rDone o.2.1 o.2.2
  if e = 0 then ⟨a.1, b.1, p.1, o.1, 0⟩ else ⟨0, 0, [], [], e⟩
theorem rPath_flat {P : List (List Nat)} (h : All32 P) (l : List Nat) : ∀ g, g ≤ P.length → rPath g 0 (P.flatten ++ l) = (P.take g, 0, (P.drop g).flatten ++ l) := by
  intro g
  induction g with
  | zero => intro _; simp [rPath]
  | succ g ih =>
    intro hg
    rw [rPath, ih (by omega)]
    have e1 : P.drop g = P.getD g [] :: P.drop (g + 1) := drop_getD (by omega)
    have e2 : (P.drop g).flatten ++ l = P.getD g [] ++ ((P.drop (g + 1)).flatten ++ l) := by rw [e1]; simp
    simp only [e2]
    rw [rSum_sum (h.getD (by omega)), take_getD (by omega)]
theorem sig_parts {a n : Int} {P : List (List Nat)} {o : List Nat} (ha : 0 ≤ a ∧ a ≤ 64) (hn : 0 ≤ n ∧ n ≤ 64) (hP : All32 P) (hp : P.length ≤ 8) (ho : o.length ≤ 4096) :
    rSig (num a ++ (num n ++ (num (P.length : Int) ++ (P.flatten ++ (num (o.length : Int) ++ (o ++ [])))))) = ⟨a, n, P, o, 0⟩ := by
  unfold rSig
  simp only [rUpto_num (a := a) (m := 64) ha (by decide), rUpto_num (a := n) (m := 64) hn (by decide), rUpto_num (a := (P.length : Int)) (m := 8) ⟨by omega, by omega⟩ (by decide), Int.toNat_natCast, rPath_flat hP _ _ (Nat.le_refl _), List.take_length, List.drop_length, List.flatten_nil, List.nil_append, rText_text (s := o) (m := 4096) (by omega) (by decide), rDone_nil, if_true]
theorem msig_eq {s : List Nat} {L : List (List Nat)} {x : Nat} {l P o : List Nat} {Q : List (List Nat)} (hQ : mpath L (x : Int) = Q) (hO : lsig (mseed s (x : Int)) l = o) (h4 : o.length = 4096) :
    msig s L x l = num (x : Int) ++ (num (L.length : Int) ++ (num (Q.length : Int) ++ (Q.flatten ++ (num (o.length : Int) ++ (o ++ []))))) := by
  unfold msig msigB
  rw [hQ, hO, List.take_length, h4]
  simp [nums]
theorem sig_back {s : List Nat} {L : List (List Nat)} {x : Nat} {l : List Nat} (hL : L.length ≤ 8) (hx : x < L.length) :
    rSig (msig s L x l) = ⟨(x : Int), (L.length : Int), mpath L (x : Int), lsig (mseed s (x : Int)) l, 0⟩ := by
  have hp := mpath_len L (x : Int)
  have ha := mpath_all L (x : Int)
  obtain ⟨Q, hQ⟩ : ∃ Q, mpath L (x : Int) = Q := ⟨_, rfl⟩
  obtain ⟨o, hO⟩ : ∃ o, lsig (mseed s (x : Int)) l = o := ⟨_, rfl⟩
  have h4 : o.length = 4096 := by rw [← hO]; exact length_lsig _ _
  rw [msig_eq (P := []) hQ hO h4, hQ, hO]
  rw [hQ] at hp ha
  exact sig_parts ⟨by omega, by omega⟩ ⟨by omega, by omega⟩ ha (by omega) (by omega)
/-- Is it a signature of a text under a root? -/
def mver (r t g : List Nat) : Prop := (rSig g).e = 0 ∧ (rSig g).o.length = 4096 ∧ mcheck r (lback t (rSig g).o) (rSig g).a (rSig g).n (rSig g).p
noncomputable instance (r t g : List Nat) : Decidable (mver r t g) := Classical.propDecidable _
theorem mver_sign {s : List Nat} {L : List (List Nat)} {x : Nat} {l : List Nat} (hL : L.length ≤ 8) (hx : x < L.length) (hk : L.getD x [] = lpub (mseed s (x : Int))) : mver (mroot L) l (msig s L x l) := by
  unfold mver
  rw [sig_back hL hx]
  refine ⟨rfl, length_lsig _ _, ?_⟩
  show mcheck (mroot L) (lback l (lsig (mseed s (x : Int)) l)) (x : Int) (L.length : Int) (mpath L (x : Int))
  rw [back_sign, ← hk]
  exact mcheck_path hx (by omega)
theorem mkeys_getD (s : List Nat) : ∀ (n x : Nat), x < n → (mkeys s n).getD x [] = lpub (mseed s (x : Int))
  | 0, x, h => by omega
  | n + 1, x, h => by
    rw [mkeys]
    have hl := mkeys_len s n
    by_cases hx : x < n
    · rw [← mkeys_getD s n x hx, List.getD_eq_getElem?_getD, List.getD_eq_getElem?_getD, List.getElem?_append_left (by omega)]
    · obtain rfl : x = n := by omega
      rw [List.getD_eq_getElem?_getD, List.getElem?_append_right (by omega), hl]; simp
abbrev sigR (q : MSig) (k k3 : Option Nat) (c c3 : Nat) : List (Option Obj → Prop) := [Rw 29 32 q.p.length c (sv q.p), Rw 5 1 q.o.length c3 (bv q.o)]
theorem rSig_no {l : List Nat} (h : ¬ (rSig l).e = 0) : rSig l = ⟨0, 0, [], [], (rSig l).e⟩ := by
  unfold rSig at h ⊢
  simp only at h ⊢
  split
  · rename_i hd; rw [if_pos hd] at h; exact absurd rfl h
  · rfl
theorem rSig_all (l : List Nat) : All32 (rSig l).p := by
  unfold rSig
  simp only
  split
  · exact rPath_all _ _ _
  · simp [All32]
theorem mn_read (w0 : World) (A : Option Addr) (c : Nat) (l : List Nat) (R : Rd w0 1 A l.length (bv l)) (bR : Bytes l) (cR : l.length ≤ c) (nR : l.length ≤ 1099511000000) :
    Ret Try.prog 92 [.slice A l.length c] w0 fun v w' => ∃ k c2 k3 c3, v = .tuple #[.int .i64 (rSig l).a, .int .i64 (rSig l).n, .slice (at_ k) (rSig l).p.length c2, .slice (at_ k3) (rSig l).o.length c3, .int .i64 (rSig l).e] ∧ St w0 w' [] [k, k3] (sigR (rSig l) k k3 c2 c3) := by
  refine enter Try.func92 rfl Try.ntmps92 (Nat.le_of_ble_eq_true rfl) ?_
  have S := St.init w0
  refine s_seq (s_plain ?_)
  refine p_val (e_assign (v := .int _ _) rfl) rfl ?_
  refine p_val (e_assign (v := .int _ _) rfl) rfl ?_
  refine p_val (e_assign (v := .slice _ _ _) rfl) rfl ?_
  refine p_val (e_assign (v := .slice _ _ _) rfl) rfl ?_
  refine p_val (e_assign (v := .int _ _) rfl) rfl ?_
  refine p_nil (x_then (s_seq (s_plain ?_)))
  refine p_val (e_move (v := .slice _ _ _) rfl) rfl ?_
  refine p_does (d_call Try.func103 nm103 rfl rfl (eye_look _ _ _ _)) rfl ?_
  rintro _ w ⟨b9, rfl, T⟩
  have S := S.merge T rfl
  refine p_val (e_assign (v := .pointer _) rfl) rfl ?_
  refine p_nil (x_then (s_seq (s_plain ?_)))
  refine p_val (e_move (v := .pointer _) rfl) rfl ?_
  refine p_does (d_call Try.func104 nm104 rfl rfl (eye_upto _ _ _ _ _ _ _ (S.hr [0] rfl) (S.rdOld R rfl) (S.offOld [0] R (by decide) Off.nil rfl) bR cR nR)) rfl ?_
  rintro _ w ⟨a11, e11, l11, A11, c11, q11, rfl, t11, T⟩
  have S := (S.call [0] T rfl).pk [0] rfl
  have R11 := t11.rd _ R
  have bR11 := t11.by_ bR
  have cR11 := t11.cap
  have nR11 := t11.len nR
  refine p_val (e_move (v := .pointer _) rfl) rfl ?_
  refine p_does (d_call Try.func104 nm104 rfl rfl (eye_upto _ _ _ _ _ _ _ (S.hr [0] rfl) (S.rdOld R11 rfl) (S.offOld [0] R11 (by decide) Off.nil rfl) bR11 cR11 nR11)) rfl ?_
  rintro _ w ⟨a13, e13, l13, A13, c13, q13, rfl, t13, T⟩
  have S := (S.call [0] T rfl).pk [0] rfl
  have R13 := t13.rd _ R11
  have bR13 := t13.by_ bR11
  have cR13 := t13.cap
  have nR13 := t13.len nR11
  refine p_val (e_assign (v := .int _ _) rfl) rfl ?_
  refine p_val (e_assign (v := .int _ _) rfl) rfl ?_
  refine p_nil (x_then (s_seq (s_seq (s_plain ?_))))
  refine p_val (e_move (v := .pointer _) rfl) rfl ?_
  refine p_does (d_call Try.func104 nm104 rfl rfl (eye_upto _ _ _ _ _ _ _ (S.hr [0] rfl) (S.rdOld R13 rfl) (S.offOld [0] R13 (by decide) Off.nil rfl) bR13 cR13 nR13)) rfl ?_
  rintro _ w ⟨a15, e15, l15, A15, c15, q15, rfl, t15, T⟩
  have S := (S.call [0] T rfl).pk [0] rfl
  have R15 := t15.rd _ R13
  have bR15 := t15.by_ bR13
  have cR15 := t15.cap
  have nR15 := t15.len nR13
  have ha15 := rUpto_le (by decide) q15
  refine p_val (e_move (v := .int _ _) rfl) rfl ?_
  refine p_nil (x_then (s_block ?_))
  have S := S.addNil 29 32
  refine s_loopK (α := Nat) (ks := [none, some b9]) (ps := [Rw _ _ _ _ _, Ex _ _]) [(2, .int _ _), (3, .int _ _), (7, .pointer _), (15, .int _ _)] ⟨rfl, rfl, rfl, rfl, trivial⟩ S (fun keep ks ps g f' w' => ∃ u Kk4 Ck4 A1 c1 e1 l1 P1 xs, f' = upds u ((4, .slice (at_ Kk4) (g) Ck4) :: (16, .int .i64 (g : Int)) :: keep) ∧ (g ≤ a15.toNat) ∧ (EyeTo A c l A1 c1 l1) ∧ (rPath g e15 l15 = (P1, e1, l1)) ∧ (xs = sv P1) ∧ St w0 w' [] [Kk4, some b9] [Rw 29 32 (g) Ck4 (xs), eyeE A1 c1 e1 l1]) (fun g => a15.toNat - g) (0) (⟨_, _, _, _, _, _, _, _, _, upds_eq ⟨rfl, rfl, rfl, rfl, rfl, rfl, trivial⟩, by first | omega | rfl | with_reducible assumption | (simp; done) | (simp; omega), t11.trans (t13.trans t15), rfl, by first | omega | rfl | with_reducible assumption | (simp; done) | (simp; omega), S⟩) ?_
  rintro g f w ⟨u, Kk4, Ck4, A1, c1, e1, l1, P1, xs, rfl, hg, t1, hq, rfl, S⟩
  have R1 := t1.rd _ R
  have bR1 := t1.by_ bR
  have cR1 := t1.cap
  have nR1 := t1.len nR
  refine s_seq (s_plain ?_)
  refine p_val (e_lss rfl rfl) rfl ?_
  refine p_nil (x_then (s_seq ?_))
  refine s_cond rfl (fun hc17 => ?_) (fun hc17 => ?_)
  · refine s_skip (x_then (s_seq (s_block (s_plain ?_))))
    refine p_val (e_move (v := .slice _ _ _) rfl) rfl ?_
    refine p_val (e_move (v := .pointer _) rfl) rfl ?_
    refine p_does (d_call Try.func105 nm105 rfl rfl (eye_sum _ _ _ _ _ _ (S.hr [1] rfl) (S.rdOld R1 rfl) (S.offOld [1] R1 (by decide) Off.nil rfl) bR1 cR1 nR1)) rfl ?_
    rintro _ w ⟨s20, e20, l20, A20, c20, q20, hs20, rfl, t20, T⟩
    have S := (S.call [1] T rfl).pk [1, 0] rfl
    have R20 := t20.rd _ R1
    have bR20 := t20.by_ bR1
    have cR20 := t20.cap
    have nR20 := t20.len nR1
    refine p_does (d_litS S Try.underlying24 sz29 zv29 rfl (L := [_]) rfl rfl (by intro x hx; simp at hx; rw [hx]; exact hs20) (by decide)) rfl ?_
    rintro _ w ⟨b21, rfl, S⟩
    refine p_does (d_append S 1 rfl rfl Try.underlying24 el29 rfl rfl (S.rdRw 0 rfl rfl) (by first | exact bv_one _ | exact sv_one _ | exact iv_one _ | with_reducible assumption | (refine One.mem ?_; repeat (first | exact One.bv _ | exact One.sv _ | exact One.iv _ | exact One.nil | exact One.cat0 | refine One.cat1 ?_ ?_ | refine One.cons rfl ?_ | refine One.append ?_ ?_))) (by first | omega | (simp only [List.length_append, List.length_cons, List.length_nil, bv_length]; omega) | (simp [cat]; omega)) (by unfold maxLen; first | omega | (simp only [List.length_append, List.length_cons, List.length_nil, bv_length]; omega))) rfl ?_
    rintro _ w ⟨k22, c22, rfl, S⟩
    refine p_val (e_assign (v := .slice _ _ _) rfl) rfl ?_
    refine p_nil (x_in (x_then (s_plain ?_)))
    refine p_val (e_add64 rfl rfl (by omega)) rfl ?_
    refine p_val (e_move (v := .int _ _) rfl) rfl ?_
    refine p_nil ?_
    refine x_round (g + 1) _ rfl ⟨_, _, _, _, _, _, _, _, _, upds_eq ⟨rfl, rfl, rfl, rfl, rfl, rfl, trivial⟩, by first | omega | rfl | with_reducible assumption | (simp; done) | (simp; omega), t1.trans t20, (by simp only [rPath, hq, q20] : rPath (g + 1) e15 l15 = (P1 ++ [s20], e20, l20)), by rw [sv_append], S.pk [1, 2] rfl⟩ (by omega)
  · refine s_exit (x_then_exit (x_then_exit (x_in_same (x_then (s_seq (s_plain ?_))))))
    refine p_val (e_move (v := .pointer _) rfl) rfl ?_
    refine p_does (d_call Try.func106 nm106 rfl rfl (eye_text _ _ _ _ _ _ _ (S.hr [1] rfl) (S.rdOld R1 rfl) (S.offOld [1] R1 (by decide) Off.nil rfl) bR1 cR1 nR1)) rfl ?_
    rintro _ w ⟨k25, cc25, s25, e25, l25, A25, c25, q25, rfl, t25, T⟩
    have S := (S.call [1] T rfl).pk [0, 2, 1] rfl
    have R25 := t25.rd _ R1
    have bR25 := t25.by_ bR1
    have cR25 := t25.cap
    have nR25 := t25.len nR1
    refine p_val (e_assign (v := .slice _ _ _) rfl) rfl ?_
    refine p_nil (x_then (s_seq (s_seq (s_plain ?_))))
    refine p_val (e_move (v := .pointer _) rfl) rfl ?_
    refine p_does (d_call Try.func107 nm107 rfl rfl (eye_done _ _ _ _ _ _ (S.hr [2] rfl))) rfl ?_
    rintro _ w ⟨rfl, T⟩
    have S := (S.call [2] T rfl).pk [1, 2, 0] rfl
    refine p_val (e_assign (v := .int _ _) rfl) rfl ?_
    refine p_nil (x_then (s_seq (s_plain ?_)))
    refine p_val (e_move (v := .int _ _) rfl) rfl ?_
    refine p_val (e_neq rfl rfl) rfl ?_
    refine p_nil (x_then ?_)
    refine s_cond rfl (fun hc29 => ?_) (fun hc29 => ?_)
    · have e0 : rSig l = ⟨0, 0, [], [], rDone e25 l25⟩ := by { have hgg : g = a15.toNat := (by omega); subst hgg; simp only [rSig, q11, q13, q15, hq, q25, if_neg hc29] }
      refine s_seq (s_plain ?_)
      refine p_val (e_move (v := .int _ _) rfl) rfl ?_
      refine p_val (e_assign (v := .int _ _) rfl) rfl ?_
      refine p_val (e_assign (v := .int _ _) rfl) rfl ?_
      refine p_val (e_assign (v := .slice _ _ _) rfl) rfl ?_
      refine p_val (e_assign (v := .slice _ _ _) rfl) rfl ?_
      refine p_val (e_assign (v := .int _ _) rfl) rfl ?_
      refine p_nil (x_then (s_ret (x_then_ret ?_)))
      exact post5 (v1 := .int _ _) (v2 := .int _ _) (v3 := .slice _ _ _) (v4 := .slice _ _ _) (v5 := .int _ _) Try.results92 rfl rfl rfl rfl rfl (by rw [e0]; exact ⟨none, 0, none, 0, rfl, (S.none_.addNil 5 1).addNil 29 32⟩)
    · have hl1 : P1.length = g := by { have := rPath_len e15 l15 g; rw [hq] at this; exact this }
      have e0 : rSig l = ⟨a11, a13, P1, s25, 0⟩ := by { have hgg : g = a15.toNat := (by omega); subst hgg; simp only [rSig, q11, q13, q15, hq, q25, if_pos (Classical.not_not.1 hc29)] }
      refine s_skip (x_then (s_seq (s_plain ?_)))
      refine p_val (e_move (v := .int _ _) rfl) rfl ?_
      refine p_val (e_move (v := .int _ _) rfl) rfl ?_
      refine p_val (e_move (v := .slice _ _ _) rfl) rfl ?_
      refine p_val (e_move (v := .slice _ _ _) rfl) rfl ?_
      refine p_val (e_assign (v := .int _ _) rfl) rfl ?_
      refine p_val (e_assign (v := .int _ _) rfl) rfl ?_
      refine p_val (e_assign (v := .slice _ _ _) rfl) rfl ?_
      refine p_val (e_assign (v := .slice _ _ _) rfl) rfl ?_
      refine p_val (e_assign (v := .int _ _) rfl) rfl ?_
      refine p_nil (x_then (s_ret ?_))
      exact post5 (v1 := .int _ _) (v2 := .int _ _) (v3 := .slice _ _ _) (v4 := .slice _ _ _) (v5 := .int _ _) Try.results92 rfl rfl rfl rfl rfl (by rw [e0]; subst hl1; exact ⟨_, _, _, _, rfl, S.pk [1, 0] rfl⟩)
end Go.Proofs.Ytdhfiamgmokfbaa

/- Signatures of keys verified; keys that have no leaf left; keys that are not there. It proves no statement by itself. -/
set_option linter.unusedSimpArgs false
set_option linter.unusedVariables false
set_option maxRecDepth 100000
set_option maxHeartbeats 1000000
namespace Go.Proofs.Ytdhfiamgmokfbaa
open Go Go.RowKit E
attribute [local irreducible] wpList seqH treeH
theorem back_gen (w0 : World) (A A2 : Option Addr) (n c0 n2 cc : Nat) (l g2 : List Nat) (R : Rd w0 1 A n (bv l)) (hn : n ≤ 1099511620000) (R2 : Rd w0 1 A2 n2 (bv g2)) (hcc : n2 ≤ cc) :
    Ret Try.prog 30 [.slice A n c0, .slice A2 n2 cc] w0 fun v w' => ∃ x e, v = .tuple #[.agg (bv x).toArray, .int .i64 e] ∧ x.length = 32 ∧ (e = 0 ↔ n2 = 4096) ∧ (n2 = 4096 → x = lback l g2) ∧ Below w0.heap.size w0 w' := by
  refine (lback_calls w0 A A2 n c0 n2 cc l g2 R hn R2 hcc).mono fun v w' ⟨hv, hB⟩ => ?_
  by_cases h4 : n2 = 4096
  · rw [if_pos h4] at hv; exact ⟨_, _, hv, length_lback _ _, by simp [h4], fun _ => rfl, hB⟩
  · rw [if_neg h4] at hv; exact ⟨_, _, hv, by simp [lzeros], by simp [h4], fun h => absurd h h4, hB⟩
theorem mver_of {r t g x : List Nat} {e : Int} {b : Bool} (h0 : (rSig g).e = 0) (he : e = 0 ↔ (rSig g).o.length = 4096) (hy : (rSig g).o.length = 4096 → x = lback t (rSig g).o)
    (hb : b = true ↔ e = 0 ∧ mcheck r x (rSig g).a (rSig g).n (rSig g).p) : b = decide (mver r t g) := by
  rw [Bool.eq_iff_iff, hb, decide_eq_true_eq]
  unfold mver
  constructor
  · rintro ⟨h1, h2⟩
    have h4 := he.1 h1
    rw [hy h4] at h2
    exact ⟨h0, h4, h2⟩
  · rintro ⟨h1, h4, h2⟩
    refine ⟨he.2 h4, ?_⟩
    rw [hy h4]
    exact h2
theorem mn_verify (w0 : World) (r : List Nat) (A : Option Addr) (n0 c0 : Nat) (t : List Nat) (A2 : Option Addr) (c2 : Nat) (g : List Nat) (hr : r.length = 32) (R : Rd w0 1 A n0 (bv t)) (hn : n0 ≤ 1099511600000) (R2 : Rd w0 1 A2 g.length (bv g)) (bR2 : Bytes g) (cR2 : g.length ≤ c2) (nR2 : g.length ≤ 1099511000000) :
    Ret Try.prog 69 [.agg (bv r).toArray, .slice A n0 c0, .slice A2 g.length c2] w0 fun v w' => v = .bool (decide (mver r t g)) ∧ Below w0.heap.size w0 w' := by
  refine enter Try.func69 rfl Try.ntmps69 (Nat.le_of_ble_eq_true rfl) ?_
  have S := St.init w0
  have hpa := rSig_all g
  refine s_seq (s_plain ?_)
  refine p_does (d_boxA S rfl) rfl ?_
  rintro _ w ⟨b3, rfl, S⟩
  refine p_val (e_assign (v := .bool _) rfl) rfl ?_
  refine p_nil (x_then (s_seq (s_plain ?_)))
  refine p_val (e_move (v := .slice _ _ _) rfl) rfl ?_
  refine p_does (d_call Try.func92 nm92 rfl rfl (mn_read _ _ _ _ (S.rdOld R2 rfl) bR2 (by omega) (by first | omega | (simp only [List.length_append, List.length_cons, List.length_nil, bv_length, hr]; omega) | (simp [cat, hr]; omega)))) rfl ?_
  rintro _ w ⟨k15, c15, j15, e15, rfl, T⟩
  have S := S.merge T rfl
  refine p_val (e_move (v := .tuple _) rfl) rfl ?_
  refine p_val (e_extract rfl rfl) rfl ?_
  refine p_val (e_extract rfl rfl) rfl ?_
  refine p_val (e_extract rfl rfl) rfl ?_
  refine p_val (e_extract rfl rfl) rfl ?_
  refine p_val (e_extract rfl rfl) rfl ?_
  refine p_val (e_assign (v := .int _ _) rfl) rfl ?_
  refine p_val (e_assign (v := .int _ _) rfl) rfl ?_
  refine p_val (e_assign (v := .slice _ _ _) rfl) rfl ?_
  refine p_val (e_assign (v := .slice _ _ _) rfl) rfl ?_
  refine p_val (e_assign (v := .int _ _) rfl) rfl ?_
  refine p_nil (x_then (s_seq (s_seq (s_plain ?_))))
  refine p_val (e_move (v := .int _ _) rfl) rfl ?_
  refine p_val (e_neq rfl rfl) rfl ?_
  refine p_nil (x_then ?_)
  refine s_cond rfl (fun hc22 => ?_) (fun hc22 => ?_)
  · refine s_seq (s_plain ?_)
    refine p_val (e_assign (v := .bool _) rfl) rfl ?_
    refine p_nil (x_then (s_ret (x_then_ret ?_)))
    exact post1 (v := .bool _) Try.results69 rfl (⟨by rw [decide_eq_false (fun h => hc22 h.1)], S.to_below⟩)
  · refine s_skip (x_then (s_seq (s_plain ?_)))
    refine p_val (e_move (v := .slice _ _ _) rfl) rfl ?_
    refine p_val (e_move (v := .slice _ _ _) rfl) rfl ?_
    refine p_does (d_call Try.func30 nm30 rfl rfl (back_gen _ _ _ _ _ _ _ _ _ (S.rdOld R rfl) (by omega) (S.rdRw 1 rfl rfl) (S.capRw 1 rfl rfl))) rfl ?_
    rintro _ w ⟨x26, e26, rfl, hx26, he26, hy26, hB⟩
    have S := S.below hB
    refine p_val (e_move (v := .tuple _) rfl) rfl ?_
    refine p_val (e_extract rfl rfl) rfl ?_
    refine p_val (e_extract rfl rfl) rfl ?_
    refine p_does (d_allocA S zvS) rfl ?_
    rintro _ w ⟨b12, rfl, S⟩
    refine p_does (d_storeW S 0 rfl rfl (bv_one _) sz29 (by simp [hx26]) rfl rfl (by first | with_reducible assumption | (rw [bv_length]; with_reducible assumption) | (rw [List.size_toArray, bv_length]; with_reducible assumption) | (simp [cat, hr]; done) | (simp [cat, hr]; omega) | rfl)) rfl ?_
    intro _ w S
    refine p_val (e_assign (v := .int _ _) rfl) rfl ?_
    refine p_nil (x_then (s_seq ?_))
    refine s_cutK (ks := [some b12, k15, j15, some b3]) (ps := [Ex _ _, Rw _ _ _ _ _, Rw _ _ _ _ _, Ex _ _]) [] trivial S (fun keep ks ps f' w' => ∃ u bb, f' = upds u ((6, .bool bb) :: keep) ∧ (bb = true ↔ e26 = 0 ∧ mcheck r x26 (rSig g).a (rSig g).n (rSig g).p) ∧ St w0 w' [] ks ps) ?_ ?_
    · refine s_plain ?_
      have hcap := S.capRw 1 rfl rfl
      refine p_val (e_move (v := .int _ _) rfl) rfl ?_
      refine p_valB (e_eql rfl rfl) rfl (fun hg30 => ?_) (fun hg30 => ?_)
      · refine p_val (e_move (v := .bool _) rfl) rfl ?_
        refine pg_val rfl rfl rfl rfl rfl (e_loadW 3 rfl ag29 sz29 S rfl rfl (by first | with_reducible assumption | (rw [bv_length]; with_reducible assumption) | (rw [List.size_toArray, bv_length]; with_reducible assumption) | (simp [cat, hr]; done) | (simp [cat, hr]; omega) | rfl)) ?_
        refine pg_val rfl rfl rfl rfl rfl (e_loadW 0 rfl ag29 sz29 S rfl rfl (by simp [hx26])) ?_
        refine pg_val rfl rfl rfl rfl rfl (e_move (v := .int _ _) rfl) ?_
        refine pg_val rfl rfl rfl rfl rfl (e_move (v := .int _ _) rfl) ?_
        refine pg_val rfl rfl rfl rfl rfl (e_move (v := .slice _ _ _) rfl) ?_
        refine pg_does rfl rfl rfl rfl rfl (d_call Try.func38 nm38 rfl rfl (mk_check _ _ _ _ _ _ _ (rSig g).p hr hx26 (S.rdRw 1 rfl rfl) hpa hcap)) ?_
        rintro _ w ⟨rfl, hB⟩
        have S := S.below hB
        rcases Classical.em (mcheck r x26 (rSig g).a (rSig g).n (rSig g).p) with hg37 | hg37
        · rw [decide_eq_true hg37]
          refine p_val (e_pick_t rfl rfl) rfl ?_
          refine p_val (e_assign (v := .bool _) rfl) rfl ?_
          exact p_nil (x_then ⟨_, rfl, _, _, upds_eq ⟨rfl, trivial⟩, by first | (simp only [decide_eq_true_eq, eq_self, true_iff, iff_true, iff_false, Bool.false_eq_true, false_iff, ge_iff_le, gt_iff_lt, true_and, and_true, false_and, and_false, true_or, or_true, false_or, or_false, not_true_eq_false, not_false_eq_true]; omega) | (simp; done) | omega | (simp_all; done), S⟩)
        · rw [decide_eq_false hg37]
          refine p_val (e_pick_t rfl rfl) rfl ?_
          refine p_val (e_assign (v := .bool _) rfl) rfl ?_
          exact p_nil (x_then ⟨_, rfl, _, _, upds_eq ⟨rfl, trivial⟩, by first | (simp only [decide_eq_true_eq, eq_self, true_iff, iff_true, iff_false, Bool.false_eq_true, false_iff, ge_iff_le, gt_iff_lt, true_and, and_true, false_and, and_false, true_or, or_true, false_or, or_false, not_true_eq_false, not_false_eq_true]; omega) | (simp; done) | omega | (simp_all; done), S⟩)
      · refine p_val (e_move (v := .bool _) rfl) rfl ?_
        refine p_no rfl rfl rfl rfl rfl ?_
        refine p_no rfl rfl rfl rfl rfl ?_
        refine p_no rfl rfl rfl rfl rfl ?_
        refine p_no rfl rfl rfl rfl rfl ?_
        refine p_no rfl rfl rfl rfl rfl ?_
        refine p_no rfl rfl rfl rfl rfl ?_
        refine p_val (e_pick_f rfl rfl) rfl ?_
        refine p_val (e_assign (v := .bool _) rfl) rfl ?_
        exact p_nil (x_then ⟨_, rfl, _, _, upds_eq ⟨rfl, trivial⟩, by first | (simp only [decide_eq_true_eq, eq_self, true_iff, iff_true, iff_false, Bool.false_eq_true, false_iff, ge_iff_le, gt_iff_lt, true_and, and_true, false_and, and_false, true_or, or_true, false_or, or_false, not_true_eq_false, not_false_eq_true]; omega) | (simp; done) | omega | (simp_all; done), S⟩)
    · rintro f w ⟨u, b6, rfl, hb6, S⟩
      refine x_then (s_ret ?_)
      exact post1 (v := .bool _) Try.results69 rfl (by rw [mver_of (Classical.not_not.1 hc22) he26 hy26 hb6]; exact ⟨rfl, S.to_below⟩)
theorem mn_leaf (w0 : World) (A : Option Addr) (c : Nat) (g : List Nat) (R : Rd w0 1 A g.length (bv g)) (bR : Bytes g) (cR : g.length ≤ c) (nR : g.length ≤ 1099511000000) :
    Ret Try.prog 68 [.slice A g.length c] w0 fun v w' => v = .int .i64 (if (rSig g).e = 0 then (rSig g).a else -1) ∧ Below w0.heap.size w0 w' := by
  refine enter Try.func68 rfl Try.ntmps68 (Nat.le_of_ble_eq_true rfl) ?_
  have S := St.init w0
  refine s_seq (s_plain ?_)
  refine p_val (e_assign (v := .int _ _) rfl) rfl ?_
  refine p_nil (x_then (s_seq (s_plain ?_)))
  refine p_val (e_move (v := .slice _ _ _) rfl) rfl ?_
  refine p_does (d_call Try.func92 nm92 rfl rfl (mn_read _ _ _ _ (S.rdOld R rfl) bR (by omega) (by first | omega | (simp only [List.length_append, List.length_cons, List.length_nil, bv_length]; omega) | (simp [cat]; omega)))) rfl ?_
  rintro _ w ⟨k10, c10, j10, e10, rfl, T⟩
  have S := S.merge T rfl
  refine p_val (e_move (v := .tuple _) rfl) rfl ?_
  refine p_val (e_extract rfl rfl) rfl ?_
  refine p_val (e_extract rfl rfl) rfl ?_
  refine p_val (e_extract rfl rfl) rfl ?_
  refine p_val (e_extract rfl rfl) rfl ?_
  refine p_val (e_extract rfl rfl) rfl ?_
  refine p_val (e_assign (v := .int _ _) rfl) rfl ?_
  refine p_val (e_assign (v := .int _ _) rfl) rfl ?_
  refine p_val (e_assign (v := .slice _ _ _) rfl) rfl ?_
  refine p_val (e_assign (v := .slice _ _ _) rfl) rfl ?_
  refine p_val (e_assign (v := .int _ _) rfl) rfl ?_
  refine p_nil (x_then (s_seq (s_seq (s_plain ?_))))
  refine p_val (e_move (v := .int _ _) rfl) rfl ?_
  refine p_val (e_neq rfl rfl) rfl ?_
  refine p_nil (x_then ?_)
  refine s_cond rfl (fun hc17 => ?_) (fun hc17 => ?_)
  · refine s_seq (s_plain ?_)
    refine p_val (e_assign (v := .int _ _) rfl) rfl ?_
    refine p_nil (x_then (s_ret (x_then_ret ?_)))
    exact post1 (v := .int _ _) Try.results68 rfl (⟨by rw [if_neg hc17], S.to_below⟩)
  · refine s_skip (x_then (s_seq (s_plain ?_)))
    refine p_val (e_move (v := .int _ _) rfl) rfl ?_
    refine p_val (e_assign (v := .int _ _) rfl) rfl ?_
    refine p_nil (x_then (s_ret ?_))
    exact post1 (v := .int _ _) Try.results68 rfl (⟨by rw [if_pos (Classical.not_not.1 hc17)], S.to_below⟩)
theorem mn_sign_used (w0 : World) (hb : Nat) (k : Option Nat) (n c : Nat) (s : List Nat) (x : Int) (L : List (List Nat)) (A : Option Addr) (n0 c0 : Nat) (S0 : St w0 w0 (exOf [some hb, k]) [some hb, k] [keyE k n c s x, keyR n c L]) (hs : s.length = 32) (hn : n ≤ 64) (hx : x = n) :
    Ret Try.prog 62 [.pointer (some ⟨hb, 0, none⟩), .slice A n0 c0] w0 fun v w' => v = .tuple #[.slice none 0 0, .int .i64 15] ∧ St w0 w' (exOf [some hb, k]) [some hb, k] [keyE k n c s x, keyR n c L] := by
  refine enter Try.func62 rfl Try.ntmps62 (Nat.le_of_ble_eq_true rfl) ?_
  have S := S0
  refine s_seq (s_plain ?_)
  refine p_val (e_assign (v := .slice _ _ _) rfl) rfl ?_
  refine p_val (e_assign (v := .int _ _) rfl) rfl ?_
  refine p_nil (x_then (s_seq (s_seq (s_plain ?_))))
  refine p_val (e_move (v := .pointer _) rfl) rfl ?_
  refine p_does (d_call Try.func63 nm63 rfl rfl (mn_left _ _ _ _ _ _ _ _ (S.hr [0, 1] rfl) (by first | with_reducible assumption | (rw [bv_length]; with_reducible assumption) | (rw [List.size_toArray, bv_length]; with_reducible assumption) | (simp [cat, hs, Value.cells]; done) | (simp [cat, hs, Value.cells]; omega) | rfl) (by omega) (by omega))) rfl ?_
  rintro _ w ⟨rfl, T⟩
  have S := (S.call [0, 1] T rfl).pk [0, 1] rfl
  refine p_val (e_eql rfl rfl) rfl ?_
  refine p_nil (x_then ?_)
  refine s_cond rfl (fun hc14 => ?_) (fun hc14 => ?_)
  · refine s_seq (s_plain ?_)
    refine p_val (e_assign (v := .slice _ _ _) rfl) rfl ?_
    refine p_val (e_assign (v := .int _ _) rfl) rfl ?_
    refine p_nil (x_then (s_ret (x_then_ret ?_)))
    exact post2 (v := .slice _ _ _) (x := .int _ _) Try.results62 rfl rfl (⟨rfl, S.pk [0, 1] rfl⟩)
  · exact False.elim (by omega)
theorem mn_sign_nil (w0 : World) (A : Option Addr) (n0 c0 : Nat) :
    Ret Try.prog 62 [.pointer none, .slice A n0 c0] w0 fun v w' => v = .tuple #[.slice none 0 0, .int .i64 15] ∧ Below w0.heap.size w0 w' := by
  refine enter Try.func62 rfl Try.ntmps62 (Nat.le_of_ble_eq_true rfl) ?_
  have S := St.init w0
  refine s_seq (s_plain ?_)
  refine p_val (e_assign (v := .slice _ _ _) rfl) rfl ?_
  refine p_val (e_assign (v := .int _ _) rfl) rfl ?_
  refine p_nil (x_then (s_seq (s_seq (s_plain ?_))))
  refine p_val (e_move (v := .pointer _) rfl) rfl ?_
  refine p_does (d_call Try.func63 nm63 rfl rfl (mn_left_nil _)) rfl ?_
  rintro _ w ⟨rfl, hB⟩
  have S := S.below hB
  refine p_val (e_eql rfl rfl) rfl ?_
  refine p_nil (x_then ?_)
  refine s_cond rfl (fun hc14 => ?_) (fun hc14 => ?_)
  · refine s_seq (s_plain ?_)
    refine p_val (e_assign (v := .slice _ _ _) rfl) rfl ?_
    refine p_val (e_assign (v := .int _ _) rfl) rfl ?_
    refine p_nil (x_then (s_ret (x_then_ret ?_)))
    exact post2 (v := .slice _ _ _) (x := .int _ _) Try.results62 rfl rfl (⟨rfl, S.to_below⟩)
  · exact False.elim (by omega)
theorem mn_skip_nil (w0 : World) (a : Int) :
    Ret Try.prog 73 [.pointer none, .int .i64 a] w0 fun v w' => v = .int .i64 5 ∧ Below w0.heap.size w0 w' := by
  refine enter Try.func73 rfl Try.ntmps73 (Nat.le_of_ble_eq_true rfl) ?_
  have S := St.init w0
  refine s_seq (s_plain ?_)
  refine p_val (e_assign (v := .int _ _) rfl) rfl ?_
  refine p_nil (x_then (s_seq (s_seq ?_)))
  refine s_cutK (ks := []) (ps := []) [(0, .pointer _), (1, .int _ _)] ⟨rfl, rfl, trivial⟩ S (fun keep ks ps f' w' => ∃ u bb, f' = upds u ((23, .bool bb) :: keep) ∧ (bb = true ↔ True) ∧ St w0 w' [] ks ps) ?_ ?_
  · refine s_plain ?_
    refine p_val (e_move (v := .pointer _) rfl) rfl ?_
    refine p_valb (e_eqlP rfl rfl Try.underlying91) rfl (fun hg6 => ?_) (fun hg6 => ?_)
    · refine p_val (e_move (v := .bool _) rfl) rfl ?_
      refine p_no rfl rfl rfl rfl rfl ?_
      refine p_no rfl rfl rfl rfl rfl ?_
      refine p_no rfl rfl rfl rfl rfl ?_
      refine p_no rfl rfl rfl rfl rfl ?_
      refine p_no rfl rfl rfl rfl rfl ?_
      refine p_no rfl rfl rfl rfl rfl ?_
      refine p_val (e_pick_t rfl rfl) rfl ?_
      refine p_val (e_move (v := .bool _) rfl) rfl ?_
      refine p_no rfl rfl rfl rfl rfl ?_
      refine p_no rfl rfl rfl rfl rfl ?_
      refine p_no rfl rfl rfl rfl rfl ?_
      refine p_no rfl rfl rfl rfl rfl ?_
      refine p_no rfl rfl rfl rfl rfl ?_
      refine p_no rfl rfl rfl rfl rfl ?_
      refine p_no rfl rfl rfl rfl rfl ?_
      refine p_val (e_pick_t rfl rfl) rfl ?_
      exact p_nil (x_then ⟨_, rfl, _, _, upds_eq ⟨rfl, rfl, rfl, trivial⟩, by first | (simp only [decide_eq_true_eq, eq_self, true_iff, iff_true, iff_false, Bool.false_eq_true, false_iff, ge_iff_le, gt_iff_lt, true_and, and_true, false_and, and_false, true_or, or_true, false_or, or_false, not_true_eq_false, not_false_eq_true]; omega) | (simp; done) | omega | (simp_all; done), S⟩)
    · exact False.elim (by simp at hg6)
  · rintro f w ⟨u, b23, rfl, hb23, S⟩
    refine x_then ?_
    refine s_condb rfl (fun hc23 => ?_) (fun hc23 => ?_)
    · have hp23 : True := hb23.1 hc23
      refine s_seq (s_plain ?_)
      refine p_val (e_assign (v := .int _ _) rfl) rfl ?_
      refine p_nil (x_then (s_ret (x_then_ret ?_)))
      exact post1 (v := .int _ _) Try.results73 rfl (⟨rfl, S.to_below⟩)
    · exact False.elim (by rw [hb23.2 trivial] at hc23; cases hc23)
end Go.Proofs.Ytdhfiamgmokfbaa

/- Chapter 5's example. It proves no statement by itself. -/
set_option linter.unusedSimpArgs false
set_option linter.unusedVariables false
set_option maxRecDepth 100000
set_option maxHeartbeats 1000000
namespace Go.Proofs.Ytdhfiamgmokfbaa
open Go Go.RowKit E
attribute [local irreducible] wpList seqH treeH
def AllB (L : List (List Nat)) : Prop := ∀ x ∈ L, Bytes x
theorem AllB.append {a b : List (List Nat)} (ha : AllB a) (hb : AllB b) : AllB (a ++ b) := fun x h => (List.mem_append.1 h).elim (ha x) (hb x)
theorem AllB.nil : AllB [] := fun x h => by cases h
theorem AllB.getD {l : List (List Nat)} (h : AllB l) (i : Nat) : Bytes (l.getD i []) := by
  rw [List.getD_eq_getElem?_getD]
  cases hx : l[i]? with
  | none => intro x hx; cases hx
  | some y => exact h y (List.mem_of_getElem? hx)
theorem AllB.flat : ∀ {l : List (List Nat)}, AllB l → Bytes l.flatten
  | [], _ => fun x h => by cases h
  | a :: l, h => fun x hx => by
    rw [List.flatten_cons] at hx
    exact (List.mem_append.1 hx).elim (h a (by simp) x) (AllB.flat (l := l) (fun y hy => h y (by simp [hy])) x)
theorem AllB.take {l : List (List Nat)} (h : AllB l) (n : Nat) : AllB (l.take n) := fun x hx => h x (List.mem_of_mem_take hx)
theorem upL_bytes : ∀ {l : List (List Nat)}, AllB l → AllB (upL l)
  | a :: b :: l, h => by
    intro x hx
    rw [upL] at hx
    rcases List.mem_cons.1 hx with rfl | hx
    · exact join_lt _ _
    · exact upL_bytes (l := l) (fun y hy => h y (by simp [hy])) x hx
  | [a], h => h
  | [], h => h
theorem pathI_bytes : ∀ (m : Nat) (l : List (List Nat)) (a : Nat), l.length = m → AllB l → AllB (pathI l a) := by
  intro m
  induction m using Nat.strongRecOn with
  | _ m ih =>
    intro l a hm hl
    by_cases h1 : l.length ≤ 1
    · rw [pathI_one h1]; exact .nil
    · rw [pathI_up h1]
      refine AllB.append ?_ (ih _ (by rw [upL_length]; omega) (upL l) (a / 2) rfl (upL_bytes hl))
      unfold sib
      split
      · intro x hx; rw [List.mem_singleton.1 hx]; exact hl.getD _
      · exact .nil
theorem mpath_bytes (l : List (List Nat)) (a : Int) : AllB (mpath l a) := by
  unfold mpath
  split
  · refine pathI_bytes _ _ _ rfl ?_
    intro x hx
    obtain ⟨y, _, rfl⟩ := List.mem_map.1 hx
    exact join_lt _ _
  · exact .nil
theorem nums_lt (l : List Int) : Bytes (nums l) := by
  intro x hx
  unfold nums at hx
  obtain ⟨a, _, h⟩ := List.mem_flatMap.1 hx
  exact num_lt a x h
theorem bytes_app {a b : List Nat} (ha : Bytes a) (hb : Bytes b) : Bytes (a ++ b) := fun x h => (List.mem_append.1 h).elim (ha x) (hb x)
theorem msig_bytes (s : List Nat) (L : List (List Nat)) (x : Nat) (l : List Nat) : Bytes (msig s L x l) := by
  unfold msig msigB
  exact bytes_app (bytes_app (bytes_app (nums_lt _) ((mpath_bytes L _).take _).flat) (num_lt _)) (lsig_lt _ _)
theorem msig_len (s : List Nat) (L : List (List Nat)) (x : Nat) (l : List Nat) : (msig s L x l).length ≤ 4200 + 32 * L.length := by
  have h1 := msigB_len (s := s) (L := L) (x := x) (Nat.le_refl _)
  have h2 := num_len 4096
  have h3 := length_lsig (mseed s (x : Int)) l
  have h4 := mpath_len L (x : Int)
  unfold msig
  simp only [List.length_append]
  omega
@[irreducible] def aL : List (List Nat) := mkeys zsum 1
theorem aL_len : aL.length = 1 := by unfold aL; exact mkeys_len _ _
theorem aL_all : All32 aL := by unfold aL; exact mkeys_all _ _
theorem aL_get : aL.getD 0 [] = lpub (mseed zsum ((0 : Nat) : Int)) := by unfold aL; exact mkeys_getD zsum 1 0 (by decide)
@[irreducible] def aS (l : List Nat) : List Nat := msig zsum aL 0 l
theorem aS_lt (l : List Nat) : Bytes (aS l) := by unfold aS; exact msig_bytes _ _ _ _
theorem aS_len (l : List Nat) : (aS l).length ≤ 4300 := by have := msig_len zsum aL 0 l; have h := aL_len; unfold aS; omega
theorem aS_sig (l : List Nat) : (rSig (aS l)).e = 0 ∧ (rSig (aS l)).a = 0 := by
  unfold aS; rw [sig_back (by have h := aL_len; omega) (by have h := aL_len; omega)]; exact ⟨rfl, rfl⟩
theorem aS_ver (l : List Nat) : mver (mroot aL) l (aS l) := by
  unfold aS; exact mver_sign (by have h := aL_len; omega) (by have h := aL_len; omega) aL_get
theorem new_one (w0 : World) : Ret Try.prog 59 [.agg (bv zsum).toArray, .int .i64 1] w0 fun v w' => ∃ b k c, v = .tuple #[.pointer (some ⟨b, 0, none⟩), .int .i64 0] ∧ St w0 w' [] [some b, k] [keyE k aL.length c zsum ((0 : Nat) : Int), keyR aL.length c aL] := by
  refine (mn_new w0 zsum 1 length_zsum (by decide) (by decide)).mono ?_
  rintro v w' ⟨b, k, c, rfl, T⟩
  refine ⟨b, k, c, rfl, ?_⟩
  rw [aL_len]
  unfold aL
  exact T
theorem sign_one (w0 : World) (hb : Nat) (k : Option Nat) (c : Nat) (A : Option Addr) (n0 c0 : Nat) (l : List Nat) (S0 : St w0 w0 (exOf [some hb, k]) [some hb, k] [keyE k aL.length c zsum ((0 : Nat) : Int), keyR aL.length c aL]) (R : Rd w0 1 A n0 (bv l)) (oR : Off A n0 (exOf [some hb, k])) (hl : n0 ≤ 1099511000000) :
    Ret Try.prog 62 [.pointer (some ⟨hb, 0, none⟩), .slice A n0 c0] w0 fun v w' => ∃ k2 c2, v = .tuple #[.slice (at_ k2) (aS l).length c2, .int .i64 0] ∧ St w0 w' (exOf [some hb, k]) [k2, some hb, k] [Rw 5 1 (aS l).length c2 (bv (aS l)), keyE k aL.length c zsum 1, keyR aL.length c aL] := by
  refine (mn_sign w0 hb k c zsum 0 aL A n0 c0 l S0 length_zsum aL_all (by have h := aL_len; omega) (by have h := aL_len; omega) R oR hl).mono ?_
  rintro v w' ⟨k2, c2, rfl, T⟩
  unfold aS
  exact ⟨k2, c2, rfl, T⟩
theorem l5awake (w0 : World) :
    Ret Try.prog 58 [] w0 fun v w' => v = .bool true ∧ Below w0.heap.size w0 w' := by
  refine enter Try.func58 rfl Try.ntmps58 (Nat.le_of_ble_eq_true rfl) ?_
  have S := St.init w0
  have hal := aS_len [97]
  have haa := aL_len
  have haA := aL_all
  refine s_seq (s_plain ?_)
  refine p_val (e_assign (v := .bool _) rfl) rfl ?_
  refine p_nil (x_then (s_seq (s_plain ?_)))
  refine p_val (e_build (cs := bv zsum) (by kernel_rfl)) rfl ?_
  refine p_does (d_call Try.func59 nm59 rfl rfl (new_one _)) rfl ?_
  rintro _ w ⟨b9, k9, c9, rfl, T⟩
  have S := S.merge T rfl
  refine p_val (e_move (v := .tuple _) rfl) rfl ?_
  refine p_val (e_extract rfl rfl) rfl ?_
  refine p_val (e_extract rfl rfl) rfl ?_
  refine p_val (e_assign (v := .pointer _) rfl) rfl ?_
  refine p_val (e_assign (v := .int _ _) rfl) rfl ?_
  refine p_nil (x_then (s_seq (s_seq ?_)))
  refine s_cutK (ks := [some b9, k9]) (ps := [Ex _ _, Rw _ _ _ _ _]) [(1, .pointer _)] ⟨rfl, trivial⟩ S (fun keep ks ps f' w' => ∃ u bb, f' = upds u ((17, .bool bb) :: keep) ∧ (bb = true ↔ False) ∧ St w0 w' [] ks ps) ?_ ?_
  · refine s_plain ?_
    refine p_val (e_move (v := .int _ _) rfl) rfl ?_
    refine p_valB (e_neq rfl rfl) rfl (fun hg13 => ?_) (fun hg13 => ?_)
    · refine p_val (e_move (v := .bool _) rfl) rfl ?_
      refine p_no rfl rfl rfl rfl rfl ?_
      refine p_no rfl rfl rfl rfl rfl ?_
      refine p_val (e_pick_t rfl rfl) rfl ?_
      exact p_nil (x_then ⟨_, rfl, _, _, upds_eq ⟨rfl, rfl, trivial⟩, by first | (simp only [decide_eq_true_eq, eq_self, true_iff, iff_true, iff_false, Bool.false_eq_true, false_iff, ge_iff_le, gt_iff_lt, true_and, and_true, false_and, and_false, true_or, or_true, false_or, or_false, not_true_eq_false, not_false_eq_true]; omega) | (simp; done) | omega | (simp_all; done), S⟩)
    · refine p_val (e_move (v := .bool _) rfl) rfl ?_
      refine pg_val rfl rfl rfl rfl rfl (e_move (v := .pointer _) rfl) ?_
      refine pg_val rfl rfl rfl rfl rfl (e_eqlP rfl rfl Try.underlying91) ?_
      refine p_val (e_pick_f rfl rfl) rfl ?_
      exact p_nil (x_then ⟨_, rfl, _, _, upds_eq ⟨rfl, rfl, trivial⟩, by first | (simp only [decide_eq_true_eq, eq_self, true_iff, iff_true, iff_false, Bool.false_eq_true, false_iff, ge_iff_le, gt_iff_lt, true_and, and_true, false_and, and_false, true_or, or_true, false_or, or_false, not_true_eq_false, not_false_eq_true]; omega) | (simp; done) | omega | (simp_all; done), S⟩)
  · rintro f w ⟨u, b17, rfl, hb17, S⟩
    refine x_then ?_
    refine s_condb rfl (fun hc17 => ?_) (fun hc17 => ?_)
    · have hp17 : False := hb17.1 hc17
      refine s_seq (s_plain ?_)
      refine p_val (e_assign (v := .bool _) rfl) rfl ?_
      refine p_nil (x_then (s_ret (x_then_ret ?_)))
      exact post1 (v := .bool _) Try.results58 rfl (hp17.elim)
    · have hp17 : ¬ False := fun h => by rw [hb17.2 h] at hc17; cases hc17
      refine s_skip (x_then (s_seq (s_plain ?_)))
      refine p_val (e_move (v := .pointer _) rfl) rfl ?_
      refine p_does (d_litB S Try.underlying33 sz5 zv5 rfl (l := [_]) rfl rfl (by decide)) rfl ?_
      rintro _ w ⟨b20, rfl, S⟩
      refine p_does (d_mark S 0 rfl rfl (by decide) rfl Try.underlying33 Try.underlying5) rfl ?_
      rintro _ w ⟨rfl, S⟩
      refine p_does (d_call Try.func62 nm62 rfl rfl (sign_one _ _ _ _ _ _ _ _ (S.hr [1, 2] rfl) (S.rdFz 0 rfl rfl) (S.offRow 0 [1, 2] rfl rfl) (by omega))) rfl ?_
      rintro _ w ⟨k22, c22, rfl, T⟩
      have S := (S.call [1, 2] T rfl).pk [0, 3, 1, 2] rfl
      refine p_val (e_move (v := .tuple _) rfl) rfl ?_
      refine p_val (e_extract rfl rfl) rfl ?_
      refine p_val (e_extract rfl rfl) rfl ?_
      refine p_val (e_assign (v := .slice _ _ _) rfl) rfl ?_
      refine p_val (e_assign (v := .int _ _) rfl) rfl ?_
      refine p_nil (x_then (s_seq (s_plain ?_)))
      refine p_val (e_move (v := .pointer _) rfl) rfl ?_
      refine p_does (d_litB S Try.underlying33 sz5 zv5 rfl (l := [_]) rfl rfl (by decide)) rfl ?_
      rintro _ w ⟨b27, rfl, S⟩
      refine p_does (d_mark S 0 rfl rfl (by decide) rfl Try.underlying33 Try.underlying5) rfl ?_
      rintro _ w ⟨rfl, S⟩
      refine p_does (d_call Try.func62 nm62 rfl rfl (mn_sign_used _ _ _ _ _ _ _ _ _ _ _ (S.hr [3, 4] rfl) length_zsum (by have h := aL_len; omega) (by rw [aL_len]; rfl))) rfl ?_
      rintro _ w ⟨rfl, T⟩
      have S := (S.call [3, 4] T rfl).pk [2, 3, 4, 0, 1] rfl
      refine p_val (e_move (v := .tuple _) rfl) rfl ?_
      refine p_val (e_extract rfl rfl) rfl ?_
      refine p_val (e_extract rfl rfl) rfl ?_
      refine p_val (e_assign (v := .slice _ _ _) rfl) rfl ?_
      refine p_val (e_assign (v := .int _ _) rfl) rfl ?_
      refine p_nil (x_then (s_seq ?_))
      refine s_cutK (ks := [some b27, k22, some b20, some b9, k9]) (ps := [Fz _ _, Rw _ _ _ _ _, Fz _ _, Ex _ _, Rw _ _ _ _ _]) [] trivial S (fun keep ks ps f' w' => ∃ u bb, f' = upds u ((0, .bool bb) :: keep) ∧ (bb = true ↔ True) ∧ St w0 w' [] ks ps) ?_ ?_
      · refine s_plain ?_
        refine p_val (e_move (v := .int _ _) rfl) rfl ?_
        refine p_valB (e_eql rfl rfl) rfl (fun hg33 => ?_) (fun hg33 => ?_)
        · refine p_val (e_move (v := .bool _) rfl) rfl ?_
          refine pg_val rfl rfl rfl rfl rfl (e_move (v := .int _ _) rfl) ?_
          refine pg_valB rfl rfl rfl rfl rfl (e_eql rfl rfl) (fun hg36 => ?_) (fun hg36 => ?_)
          · refine p_val (e_pick_t rfl rfl) rfl ?_
            refine p_val (e_move (v := .bool _) rfl) rfl ?_
            refine pg_val rfl rfl rfl rfl rfl (e_move (v := .pointer _) rfl) ?_
            refine pg_does rfl rfl rfl rfl rfl (d_call Try.func72 nm72 rfl rfl (mn_root _ _ _ _ _ _ _ (S.hr [3, 4] rfl) (by first | with_reducible assumption | (rw [bv_length]; with_reducible assumption) | (rw [List.size_toArray, bv_length]; with_reducible assumption) | (simp [cat, length_zsum, length_mroot]; done) | (simp [cat, length_zsum, length_mroot]; omega) | rfl) (by with_reducible assumption) (by omega))) ?_
            rintro _ w ⟨rfl, T⟩
            have S := (S.call [3, 4] T rfl).pk [2, 3, 4, 0, 1] rfl
            refine pg_does rfl rfl rfl rfl rfl (d_litB S Try.underlying33 sz5 zv5 rfl (l := [_]) rfl rfl (by decide)) ?_
            rintro _ w ⟨b41, rfl, S⟩
            refine pg_does rfl rfl rfl rfl rfl (d_mark S 0 rfl rfl (by decide) rfl Try.underlying33 Try.underlying5) ?_
            rintro _ w ⟨rfl, S⟩
            refine pg_val rfl rfl rfl rfl rfl (e_move (v := .slice _ _ _) rfl) ?_
            refine pg_does rfl rfl rfl rfl rfl (d_call Try.func69 nm69 rfl rfl (mn_verify _ _ _ _ _ _ _ _ _ (by first | with_reducible assumption | (rw [bv_length]; with_reducible assumption) | (rw [List.size_toArray, bv_length]; with_reducible assumption) | (simp [cat, length_zsum, length_mroot]; done) | (simp [cat, length_zsum, length_mroot]; omega) | rfl) (S.rdFz 0 rfl rfl) (by omega) (S.rdRw 2 rfl rfl) (aS_lt _) (S.capRw 2 rfl rfl) (by first | omega | (simp only [List.length_append, List.length_cons, List.length_nil, bv_length, length_zsum, length_mroot]; omega) | (simp [cat, length_zsum, length_mroot]; omega)))) ?_
            rintro _ w ⟨rfl, hB⟩
            have S := S.below hB
            rcases Classical.em (mver (mroot aL) [97] (aS [97])) with hg44 | hg44
            · rw [decide_eq_true hg44]
              refine p_val (e_pick_t rfl rfl) rfl ?_
              refine p_val (e_move (v := .bool _) rfl) rfl ?_
              refine pg_val rfl rfl rfl rfl rfl (e_move (v := .slice _ _ _) rfl) ?_
              refine pg_does rfl rfl rfl rfl rfl (d_call Try.func68 nm68 rfl rfl (mn_leaf _ _ _ _ (S.rdRw 2 rfl rfl) (aS_lt _) (S.capRw 2 rfl rfl) (by first | omega | (simp only [List.length_append, List.length_cons, List.length_nil, bv_length, length_zsum, length_mroot]; omega) | (simp [cat, length_zsum, length_mroot]; omega)))) ?_
              rintro _ w ⟨rfl, hB⟩
              have S := S.below hB
              refine pg_val rfl rfl rfl rfl rfl (e_eql rfl rfl) ?_
              refine p_val (e_pick_t rfl rfl) rfl ?_
              refine p_val (e_assign (v := .bool _) rfl) rfl ?_
              exact p_nil (x_then ⟨_, rfl, _, _, upds_eq ⟨rfl, trivial⟩, by have h := aS_sig [97]; simp [h.1, h.2], S.pk [1, 2, 3, 4, 5] rfl⟩)
            · exact False.elim (hg44 (aS_ver [97]))
          · exact False.elim (hg36 rfl)
        · exact False.elim (hg33 rfl)
      · rintro f w ⟨u, b0, rfl, hb0, S⟩
        refine x_then (s_ret ?_)
        exact post1 (v := .bool _) Try.results58 rfl (by rw [hb0.2 trivial]; exact ⟨rfl, S.to_below⟩)
end Go.Proofs.Ytdhfiamgmokfbaa

/- Chapter 5's law on keys that are not there. It proves no statement by itself. -/
set_option linter.unusedSimpArgs false
set_option linter.unusedVariables false
set_option maxRecDepth 100000
set_option maxHeartbeats 1000000
namespace Go.Proofs.Ytdhfiamgmokfbaa
open Go Go.RowKit E
attribute [local irreducible] wpList seqH treeH
theorem l5cut (w0 : World) (A : Option Addr) (n c : Nat) (hc : n ≤ c) :
    Ret Try.prog 61 [.slice A n c] w0 fun v w' => v = .slice A (min n 200) c ∧ Below w0.heap.size w0 w' := by
  refine enter Try.func61 rfl Try.ntmps61 (Nat.le_of_ble_eq_true rfl) ?_
  have S := St.init w0
  refine s_seq (s_plain ?_)
  refine p_val (e_assign (v := .slice _ _ _) rfl) rfl ?_
  refine p_nil (x_then (s_seq (s_seq (s_plain ?_))))
  refine p_val (e_move (v := .slice _ _ _) rfl) rfl ?_
  refine p_val (e_len rfl Try.underlying33) rfl ?_
  refine p_val (e_gtr rfl rfl) rfl ?_
  refine p_nil (x_then ?_)
  refine s_cond rfl (fun hc5 => ?_) (fun hc5 => ?_)
  · refine s_seq (s_plain ?_)
    refine p_val (e_move (v := .slice _ _ _) rfl) rfl ?_
    refine p_val (e_sl_h ((200)) rfl rfl (rfl) (by omega) Try.underlying33 sz5) rfl ?_
    refine p_val (e_assign (v := .slice _ _ _) rfl) rfl ?_
    refine p_nil (x_then (s_ret (x_then_ret ?_)))
    exact post1 (v := .slice _ _ _) Try.results61 rfl (⟨by rw [Nat.min_eq_right (by omega)], S.to_below⟩)
  · refine s_skip (x_then (s_seq (s_plain ?_)))
    refine p_val (e_move (v := .slice _ _ _) rfl) rfl ?_
    refine p_val (e_assign (v := .slice _ _ _) rfl) rfl ?_
    refine p_nil (x_then (s_ret ?_))
    exact post1 (v := .slice _ _ _) Try.results61 rfl (⟨by rw [Nat.min_eq_left (by omega)], S.to_below⟩)
theorem mnobody_calls (w0 : World) (A : Option Addr) (n c : Nat) (a : Int) (hc : n ≤ c) :
    Ret Try.prog 16 [.slice A n c, .int .i64 a] w0 fun v w' => v = .bool true ∧ Below w0.heap.size w0 w' := by
  refine enter Try.func16 rfl Try.ntmps16 (Nat.le_of_ble_eq_true rfl) ?_
  have S := St.init w0
  refine s_seq (s_plain ?_)
  refine p_val (e_assign (v := .bool _) rfl) rfl ?_
  refine p_nil (x_then (s_seq (s_plain ?_)))
  refine p_val (e_assign (v := .pointer _) rfl) rfl ?_
  refine p_nil (x_then (s_seq (s_plain ?_)))
  refine p_val (e_move (v := .pointer _) rfl) rfl ?_
  refine p_val (e_move (v := .slice _ _ _) rfl) rfl ?_
  refine p_does (d_call Try.func61 nm61 rfl rfl (l5cut _ _ _ _ (by omega))) rfl ?_
  rintro _ w ⟨rfl, hB⟩
  have S := S.below hB
  refine p_does (d_call Try.func62 nm62 rfl rfl (mn_sign_nil _ _ _ _)) rfl ?_
  rintro _ w ⟨rfl, hB⟩
  have S := S.below hB
  refine p_val (e_move (v := .tuple _) rfl) rfl ?_
  refine p_val (e_extract rfl rfl) rfl ?_
  refine p_val (e_extract rfl rfl) rfl ?_
  refine p_val (e_assign (v := .slice _ _ _) rfl) rfl ?_
  refine p_val (e_assign (v := .int _ _) rfl) rfl ?_
  refine p_nil (x_then (s_seq ?_))
  refine s_cutK (ks := []) (ps := []) [] trivial S (fun keep ks ps f' w' => ∃ u bb, f' = upds u ((4, .bool bb) :: keep) ∧ (bb = true ↔ True) ∧ St w0 w' [] ks ps) ?_ ?_
  · refine s_plain ?_
    refine p_val (e_move (v := .slice _ _ _) rfl) rfl ?_
    refine p_val (e_len rfl Try.underlying33) rfl ?_
    refine p_valB (e_eql rfl rfl) rfl (fun hg17 => ?_) (fun hg17 => ?_)
    · refine p_val (e_move (v := .bool _) rfl) rfl ?_
      refine pg_val rfl rfl rfl rfl rfl (e_move (v := .int _ _) rfl) ?_
      refine pg_valB rfl rfl rfl rfl rfl (e_eql rfl rfl) (fun hg20 => ?_) (fun hg20 => ?_)
      · refine p_val (e_pick_t rfl rfl) rfl ?_
        refine p_val (e_move (v := .bool _) rfl) rfl ?_
        refine pg_val rfl rfl rfl rfl rfl (e_move (v := .pointer _) rfl) ?_
        refine pg_does rfl rfl rfl rfl rfl (d_call Try.func72 nm72 rfl rfl (mn_root_nil _)) ?_
        rintro _ w ⟨rfl, hB⟩
        have S := S.below hB
        refine pg_val rfl rfl rfl rfl rfl (e_build (cs := bv zsum) (by kernel_rfl)) ?_
        refine pg_valB rfl rfl rfl rfl rfl (EqT.sum eq29 gd29 rfl rfl (by first | with_reducible assumption | (rw [bv_length]; with_reducible assumption) | (rw [List.size_toArray, bv_length]; with_reducible assumption) | (simp [cat, length_zsum]; done) | (simp [cat, length_zsum]; omega) | rfl) (by first | with_reducible assumption | (rw [bv_length]; with_reducible assumption) | (rw [List.size_toArray, bv_length]; with_reducible assumption) | (simp [cat, length_zsum]; done) | (simp [cat, length_zsum]; omega) | rfl)) (fun hg26 => ?_) (fun hg26 => ?_)
        · refine p_val (e_pick_t rfl rfl) rfl ?_
          refine p_val (e_move (v := .bool _) rfl) rfl ?_
          refine pg_val rfl rfl rfl rfl rfl (e_move (v := .pointer _) rfl) ?_
          refine pg_does rfl rfl rfl rfl rfl (d_call Try.func63 nm63 rfl rfl (mn_left_nil _)) ?_
          rintro _ w ⟨rfl, hB⟩
          have S := S.below hB
          refine pg_val rfl rfl rfl rfl rfl (e_move (v := .pointer _) rfl) ?_
          refine pg_does rfl rfl rfl rfl rfl (d_call Try.func70 nm70 rfl rfl (mn_next_nil _)) ?_
          rintro _ w ⟨rfl, hB⟩
          have S := S.below hB
          refine pg_val rfl rfl rfl rfl rfl (e_add64 rfl rfl (by omega)) ?_
          refine pg_valB rfl rfl rfl rfl rfl (e_eql rfl rfl) (fun hg34 => ?_) (fun hg34 => ?_)
          · refine p_val (e_pick_t rfl rfl) rfl ?_
            refine p_val (e_move (v := .bool _) rfl) rfl ?_
            refine pg_val rfl rfl rfl rfl rfl (e_move (v := .pointer _) rfl) ?_
            refine pg_val rfl rfl rfl rfl rfl (e_move (v := .int _ _) rfl) ?_
            refine pg_does rfl rfl rfl rfl rfl (d_call Try.func73 nm73 rfl rfl (mn_skip_nil _ _)) ?_
            rintro _ w ⟨rfl, hB⟩
            have S := S.below hB
            refine pg_valB rfl rfl rfl rfl rfl (e_eql rfl rfl) (fun hg40 => ?_) (fun hg40 => ?_)
            · refine p_val (e_pick_t rfl rfl) rfl ?_
              refine p_val (e_move (v := .bool _) rfl) rfl ?_
              refine pg_does rfl rfl rfl rfl rfl (d_call Try.func58 nm58 rfl rfl (l5awake _)) ?_
              rintro _ w ⟨rfl, hB⟩
              have S := S.below hB
              refine p_val (e_pick_t rfl rfl) rfl ?_
              refine p_val (e_assign (v := .bool _) rfl) rfl ?_
              exact p_nil (x_then ⟨_, rfl, _, _, upds_eq ⟨rfl, trivial⟩, by first | (simp only [decide_eq_true_eq, eq_self, true_iff, iff_true, iff_false, Bool.false_eq_true, false_iff, ge_iff_le, gt_iff_lt, true_and, and_true, false_and, and_false, true_or, or_true, false_or, or_false, not_true_eq_false, not_false_eq_true]; omega) | (simp; done) | omega | (simp_all; done), S⟩)
            · exact False.elim (by simp at hg40)
          · exact False.elim (by simp at hg34)
        · exact False.elim (hg26 rfl)
      · exact False.elim (by simp at hg20)
    · exact False.elim (by simp at hg17)
  · rintro f w ⟨u, b4, rfl, hb4, S⟩
    refine x_then (s_ret ?_)
    exact post1 (v := .bool _) Try.results16 rfl (by rw [hb4.2 trivial]; exact ⟨rfl, S.to_below⟩)
end Go.Proofs.Ytdhfiamgmokfbaa

/- Chapter 5's law on new keys. It proves no statement by itself. -/
set_option linter.unusedSimpArgs false
set_option linter.unusedVariables false
set_option maxRecDepth 100000
set_option maxHeartbeats 1000000
namespace Go.Proofs.Ytdhfiamgmokfbaa
open Go Go.RowKit E
attribute [local irreducible] wpList seqH treeH
theorem mn_newL (w0 : World) (s : List Nat) (a : Int) (n : Nat) (ha : a = n) (hs : s.length = 32) (h1 : 1 ≤ n) (hn : n ≤ 64) :
     Ret Try.prog 59 [.agg (bv s).toArray, .int .i64 a] w0 fun v w' => ∃ b k c L, v = .tuple #[.pointer (some ⟨b, 0, none⟩), .int .i64 0] ∧ L = mkeys s n ∧ List.length L = n ∧ All32 L ∧ St w0 w' [] [some b, k] [keyE k (List.length L) c s 0, keyR (List.length L) c L] := by
  subst ha
  refine (mn_new w0 s n hs h1 hn).mono ?_
  rintro v w' ⟨b, k, c, rfl, T⟩
  refine ⟨b, k, c, _, rfl, rfl, mkeys_len _ _, mkeys_all _ _, ?_⟩
  rw [mkeys_len]
  exact T
theorem mnews_out (w0 : World) (s : List Nat) (n a : Int) (hs : s.length = 32) (h : n < 1 ∨ 64 < n) :
    Ret Try.prog 15 [.agg (bv s).toArray, .int .i64 n, .int .i64 a] w0 fun v w' => v = .bool true ∧ Below w0.heap.size w0 w' := by
  refine enter Try.func15 rfl Try.ntmps15 (Nat.le_of_ble_eq_true rfl) ?_
  have S := St.init w0
  refine s_seq (s_plain ?_)
  refine p_does (d_boxA S rfl) rfl ?_
  rintro _ w ⟨b3, rfl, S⟩
  refine p_val (e_assign (v := .bool _) rfl) rfl ?_
  refine p_nil (x_then (s_seq (s_seq ?_)))
  refine s_cutK (ks := [some b3]) (ps := [Ex _ _]) [(1, .int _ _), (2, .int _ _), (3, .pointer _)] ⟨rfl, rfl, rfl, trivial⟩ S (fun keep ks ps f' w' => ∃ u bb, f' = upds u ((15, .bool bb) :: keep) ∧ (bb = true ↔ (((8 : Int) < n) ∧ (n ≤ (64 : Int)))) ∧ St w0 w' [] ks ps) ?_ ?_
  · refine s_plain ?_
    refine p_val (e_move (v := .int _ _) rfl) rfl ?_
    refine p_valB (e_gtr rfl rfl) rfl (fun hg11 => ?_) (fun hg11 => ?_)
    · refine p_val (e_move (v := .bool _) rfl) rfl ?_
      refine pg_val rfl rfl rfl rfl rfl (e_move (v := .int _ _) rfl) ?_
      refine pg_val rfl rfl rfl rfl rfl (e_leq rfl rfl) ?_
      refine p_val (e_pick_t rfl rfl) rfl ?_
      exact p_nil (x_then ⟨_, rfl, _, _, upds_eq ⟨rfl, rfl, rfl, rfl, trivial⟩, by first | (simp only [decide_eq_true_eq, eq_self, true_iff, iff_true, iff_false, Bool.false_eq_true, false_iff, ge_iff_le, gt_iff_lt, true_and, and_true, false_and, and_false, true_or, or_true, false_or, or_false, not_true_eq_false, not_false_eq_true]; omega) | (simp; done) | omega | (simp_all; done), S⟩)
    · refine p_val (e_move (v := .bool _) rfl) rfl ?_
      refine p_no rfl rfl rfl rfl rfl ?_
      refine p_no rfl rfl rfl rfl rfl ?_
      refine p_val (e_pick_f rfl rfl) rfl ?_
      exact p_nil (x_then ⟨_, rfl, _, _, upds_eq ⟨rfl, rfl, rfl, rfl, trivial⟩, by first | (simp only [decide_eq_true_eq, eq_self, true_iff, iff_true, iff_false, Bool.false_eq_true, false_iff, ge_iff_le, gt_iff_lt, true_and, and_true, false_and, and_false, true_or, or_true, false_or, or_false, not_true_eq_false, not_false_eq_true]; omega) | (simp; done) | omega | (simp_all; done), S⟩)
  · rintro f w ⟨u, b15, rfl, hb15, S⟩
    refine x_then ?_
    refine s_condb rfl (fun hc15 => ?_) (fun hc15 => ?_)
    · exact False.elim ((fun (hp15 : (((8 : Int) < n) ∧ (n ≤ (64 : Int)))) => by omega) (hb15.1 hc15))
    · have hp15 : ¬ (((8 : Int) < n) ∧ (n ≤ (64 : Int))) := fun h => by rw [hb15.2 h] at hc15; cases hc15
      refine s_skip (x_then (s_seq (s_plain ?_)))
      refine p_val (e_loadW 0 rfl ag29 sz29 S rfl rfl (by first | with_reducible assumption | (rw [bv_length]; with_reducible assumption) | (rw [List.size_toArray, bv_length]; with_reducible assumption) | (simp [cat, hs]; done) | (simp [cat, hs]; omega) | rfl)) rfl ?_
      refine p_val (e_move (v := .int _ _) rfl) rfl ?_
      refine p_does (d_call Try.func59 nm59 rfl rfl (mn_new_no _ _ _ hs h)) rfl ?_
      rintro _ w ⟨rfl, hB⟩
      have S := S.below hB
      refine p_val (e_move (v := .tuple _) rfl) rfl ?_
      refine p_val (e_extract rfl rfl) rfl ?_
      refine p_val (e_extract rfl rfl) rfl ?_
      refine p_val (e_assign (v := .pointer _) rfl) rfl ?_
      refine p_val (e_assign (v := .int _ _) rfl) rfl ?_
      refine p_nil (x_then (s_seq (s_seq ?_)))
      refine s_cutK (ks := [some b3]) (ps := [Ex _ _]) [(1, .int _ _), (2, .int _ _), (3, .pointer _), (7, .pointer _), (8, .int _ _)] ⟨rfl, rfl, rfl, rfl, rfl, trivial⟩ S (fun keep ks ps f' w' => ∃ u bb, f' = upds u ((28, .bool bb) :: keep) ∧ (bb = true ↔ ((n < (1 : Int)) ∨ ((64 : Int) < n))) ∧ St w0 w' [] ks ps) ?_ ?_
      · refine s_plain ?_
        refine p_val (e_move (v := .int _ _) rfl) rfl ?_
        refine p_valB (e_lss rfl rfl) rfl (fun hg24 => ?_) (fun hg24 => ?_)
        · refine p_val (e_move (v := .bool _) rfl) rfl ?_
          refine p_no rfl rfl rfl rfl rfl ?_
          refine p_no rfl rfl rfl rfl rfl ?_
          refine p_val (e_pick_t rfl rfl) rfl ?_
          exact p_nil (x_then ⟨_, rfl, _, _, upds_eq ⟨rfl, rfl, rfl, rfl, rfl, rfl, trivial⟩, by first | (simp only [decide_eq_true_eq, eq_self, true_iff, iff_true, iff_false, Bool.false_eq_true, false_iff, ge_iff_le, gt_iff_lt, true_and, and_true, false_and, and_false, true_or, or_true, false_or, or_false, not_true_eq_false, not_false_eq_true]; omega) | (simp; done) | omega | (simp_all; done), S⟩)
        · refine p_val (e_move (v := .bool _) rfl) rfl ?_
          refine pg_val rfl rfl rfl rfl rfl (e_move (v := .int _ _) rfl) ?_
          refine pg_val rfl rfl rfl rfl rfl (e_gtr rfl rfl) ?_
          refine p_val (e_pick_f rfl rfl) rfl ?_
          exact p_nil (x_then ⟨_, rfl, _, _, upds_eq ⟨rfl, rfl, rfl, rfl, rfl, rfl, trivial⟩, by first | (simp only [decide_eq_true_eq, eq_self, true_iff, iff_true, iff_false, Bool.false_eq_true, false_iff, ge_iff_le, gt_iff_lt, true_and, and_true, false_and, and_false, true_or, or_true, false_or, or_false, not_true_eq_false, not_false_eq_true]; omega) | (simp; done) | omega | (simp_all; done), S⟩)
      · rintro f w ⟨u, b28, rfl, hb28, S⟩
        refine x_then ?_
        refine s_condb rfl (fun hc28 => ?_) (fun hc28 => ?_)
        · have hp28 : ((n < (1 : Int)) ∨ ((64 : Int) < n)) := hb28.1 hc28
          refine s_seq ?_
          refine s_cutK (ks := [some b3]) (ps := [Ex _ _]) [] trivial S (fun keep ks ps f' w' => ∃ u bb, f' = upds u ((6, .bool bb) :: keep) ∧ (bb = true ↔ True) ∧ St w0 w' [] ks ps) ?_ ?_
          · refine s_plain ?_
            refine p_val (e_move (v := .pointer _) rfl) rfl ?_
            refine p_valb (e_eqlP rfl rfl Try.underlying91) rfl (fun hg30 => ?_) (fun hg30 => ?_)
            · refine p_val (e_move (v := .bool _) rfl) rfl ?_
              refine pg_val rfl rfl rfl rfl rfl (e_move (v := .int _ _) rfl) ?_
              refine pg_valB rfl rfl rfl rfl rfl (e_eql rfl rfl) (fun hg33 => ?_) (fun hg33 => ?_)
              · refine p_val (e_pick_t rfl rfl) rfl ?_
                refine p_val (e_move (v := .bool _) rfl) rfl ?_
                refine pg_does rfl rfl rfl rfl rfl (d_call Try.func58 nm58 rfl rfl (l5awake _)) ?_
                rintro _ w ⟨rfl, hB⟩
                have S := S.below hB
                refine p_val (e_pick_t rfl rfl) rfl ?_
                refine p_val (e_assign (v := .bool _) rfl) rfl ?_
                exact p_nil (x_then ⟨_, rfl, _, _, upds_eq ⟨rfl, trivial⟩, by first | (simp only [decide_eq_true_eq, eq_self, true_iff, iff_true, iff_false, Bool.false_eq_true, false_iff, ge_iff_le, gt_iff_lt, true_and, and_true, false_and, and_false, true_or, or_true, false_or, or_false, not_true_eq_false, not_false_eq_true]; omega) | (simp; done) | omega | (simp_all; done), S⟩)
              · exact False.elim (by simp at hg33)
            · exact False.elim (by simp at hg30)
          · rintro f w ⟨u, b6, rfl, hb6, S⟩
            refine x_then (s_ret (x_then_ret ?_))
            exact post1 (v := .bool _) Try.results15 rfl (by rw [hb6.2 trivial]; exact ⟨rfl, S.to_below⟩)
        · exact False.elim ((fun (hp28 : ¬ ((n < (1 : Int)) ∨ ((64 : Int) < n))) => hp28 h) (fun h => by rw [hb28.2 h] at hc28; cases hc28))
theorem mnews_big (w0 : World) (s : List Nat) (n a : Int) (hs : s.length = 32) (h : 8 < n ∧ n ≤ 64) :
    Ret Try.prog 15 [.agg (bv s).toArray, .int .i64 n, .int .i64 a] w0 fun v w' => v = .bool true ∧ Below w0.heap.size w0 w' := by
  refine enter Try.func15 rfl Try.ntmps15 (Nat.le_of_ble_eq_true rfl) ?_
  have S := St.init w0
  refine s_seq (s_plain ?_)
  refine p_does (d_boxA S rfl) rfl ?_
  rintro _ w ⟨b3, rfl, S⟩
  refine p_val (e_assign (v := .bool _) rfl) rfl ?_
  refine p_nil (x_then (s_seq (s_seq ?_)))
  refine s_cutK (ks := [some b3]) (ps := [Ex _ _]) [(1, .int _ _), (2, .int _ _), (3, .pointer _)] ⟨rfl, rfl, rfl, trivial⟩ S (fun keep ks ps f' w' => ∃ u bb, f' = upds u ((15, .bool bb) :: keep) ∧ (bb = true ↔ (((8 : Int) < n) ∧ (n ≤ (64 : Int)))) ∧ St w0 w' [] ks ps) ?_ ?_
  · refine s_plain ?_
    refine p_val (e_move (v := .int _ _) rfl) rfl ?_
    refine p_valB (e_gtr rfl rfl) rfl (fun hg11 => ?_) (fun hg11 => ?_)
    · refine p_val (e_move (v := .bool _) rfl) rfl ?_
      refine pg_val rfl rfl rfl rfl rfl (e_move (v := .int _ _) rfl) ?_
      refine pg_val rfl rfl rfl rfl rfl (e_leq rfl rfl) ?_
      refine p_val (e_pick_t rfl rfl) rfl ?_
      exact p_nil (x_then ⟨_, rfl, _, _, upds_eq ⟨rfl, rfl, rfl, rfl, trivial⟩, by first | (simp only [decide_eq_true_eq, eq_self, true_iff, iff_true, iff_false, Bool.false_eq_true, false_iff, ge_iff_le, gt_iff_lt, true_and, and_true, false_and, and_false, true_or, or_true, false_or, or_false, not_true_eq_false, not_false_eq_true]; omega) | (simp; done) | omega | (simp_all; done), S⟩)
    · refine p_val (e_move (v := .bool _) rfl) rfl ?_
      refine p_no rfl rfl rfl rfl rfl ?_
      refine p_no rfl rfl rfl rfl rfl ?_
      refine p_val (e_pick_f rfl rfl) rfl ?_
      exact p_nil (x_then ⟨_, rfl, _, _, upds_eq ⟨rfl, rfl, rfl, rfl, trivial⟩, by first | (simp only [decide_eq_true_eq, eq_self, true_iff, iff_true, iff_false, Bool.false_eq_true, false_iff, ge_iff_le, gt_iff_lt, true_and, and_true, false_and, and_false, true_or, or_true, false_or, or_false, not_true_eq_false, not_false_eq_true]; omega) | (simp; done) | omega | (simp_all; done), S⟩)
  · rintro f w ⟨u, b15, rfl, hb15, S⟩
    refine x_then ?_
    refine s_condb rfl (fun hc15 => ?_) (fun hc15 => ?_)
    · have hp15 : (((8 : Int) < n) ∧ (n ≤ (64 : Int))) := hb15.1 hc15
      refine s_seq (s_plain ?_)
      refine p_does (d_call Try.func58 nm58 rfl rfl (l5awake _)) rfl ?_
      rintro _ w ⟨rfl, hB⟩
      have S := S.below hB
      refine p_val (e_assign (v := .bool _) rfl) rfl ?_
      refine p_nil (x_then (s_ret (x_then_ret ?_)))
      exact post1 (v := .bool _) Try.results15 rfl (⟨rfl, S.to_below⟩)
    · exact False.elim ((fun (hp15 : ¬ (((8 : Int) < n) ∧ (n ≤ (64 : Int)))) => hp15 h) (fun h => by rw [hb15.2 h] at hc15; cases hc15))
theorem mnews_in (w0 : World) (s : List Nat) (n : Nat) (a : Int) (hs : s.length = 32) (h1 : 1 ≤ n) (h8 : n ≤ 8) :
    Ret Try.prog 15 [.agg (bv s).toArray, .int .i64 (n : Int), .int .i64 a] w0 fun v w' => v = .bool true ∧ Below w0.heap.size w0 w' := by
  refine enter Try.func15 rfl Try.ntmps15 (Nat.le_of_ble_eq_true rfl) ?_
  have S := St.init w0
  refine s_seq (s_plain ?_)
  refine p_does (d_boxA S rfl) rfl ?_
  rintro _ w ⟨b3, rfl, S⟩
  refine p_val (e_assign (v := .bool _) rfl) rfl ?_
  refine p_nil (x_then (s_seq (s_seq ?_)))
  refine s_cutK (ks := [some b3]) (ps := [Ex _ _]) [(1, .int _ _), (2, .int _ _), (3, .pointer _)] ⟨rfl, rfl, rfl, trivial⟩ S (fun keep ks ps f' w' => ∃ u bb, f' = upds u ((15, .bool bb) :: keep) ∧ (bb = true ↔ (((8 : Int) < (n : Int)) ∧ ((n : Int) ≤ (64 : Int)))) ∧ St w0 w' [] ks ps) ?_ ?_
  · refine s_plain ?_
    refine p_val (e_move (v := .int _ _) rfl) rfl ?_
    refine p_valB (e_gtr rfl rfl) rfl (fun hg11 => ?_) (fun hg11 => ?_)
    · refine p_val (e_move (v := .bool _) rfl) rfl ?_
      refine pg_val rfl rfl rfl rfl rfl (e_move (v := .int _ _) rfl) ?_
      refine pg_val rfl rfl rfl rfl rfl (e_leq rfl rfl) ?_
      refine p_val (e_pick_t rfl rfl) rfl ?_
      exact p_nil (x_then ⟨_, rfl, _, _, upds_eq ⟨rfl, rfl, rfl, rfl, trivial⟩, by first | (simp only [decide_eq_true_eq, eq_self, true_iff, iff_true, iff_false, Bool.false_eq_true, false_iff, ge_iff_le, gt_iff_lt, true_and, and_true, false_and, and_false, true_or, or_true, false_or, or_false, not_true_eq_false, not_false_eq_true]; omega) | (simp; done) | omega | (simp_all; done), S⟩)
    · refine p_val (e_move (v := .bool _) rfl) rfl ?_
      refine p_no rfl rfl rfl rfl rfl ?_
      refine p_no rfl rfl rfl rfl rfl ?_
      refine p_val (e_pick_f rfl rfl) rfl ?_
      exact p_nil (x_then ⟨_, rfl, _, _, upds_eq ⟨rfl, rfl, rfl, rfl, trivial⟩, by first | (simp only [decide_eq_true_eq, eq_self, true_iff, iff_true, iff_false, Bool.false_eq_true, false_iff, ge_iff_le, gt_iff_lt, true_and, and_true, false_and, and_false, true_or, or_true, false_or, or_false, not_true_eq_false, not_false_eq_true]; omega) | (simp; done) | omega | (simp_all; done), S⟩)
  · rintro f w ⟨u, b15, rfl, hb15, S⟩
    refine x_then ?_
    refine s_condb rfl (fun hc15 => ?_) (fun hc15 => ?_)
    · exact False.elim ((fun (hp15 : (((8 : Int) < (n : Int)) ∧ ((n : Int) ≤ (64 : Int)))) => by omega) (hb15.1 hc15))
    · have hp15 : ¬ (((8 : Int) < (n : Int)) ∧ ((n : Int) ≤ (64 : Int))) := fun h => by rw [hb15.2 h] at hc15; cases hc15
      refine s_skip (x_then (s_seq (s_plain ?_)))
      refine p_val (e_loadW 0 rfl ag29 sz29 S rfl rfl (by first | with_reducible assumption | (rw [bv_length]; with_reducible assumption) | (rw [List.size_toArray, bv_length]; with_reducible assumption) | (simp [cat, hs, length_mroot, Value.cells]; done) | (simp [cat, hs, length_mroot, Value.cells]; omega) | rfl)) rfl ?_
      refine p_val (e_move (v := .int _ _) rfl) rfl ?_
      refine p_does (d_call Try.func59 nm59 rfl rfl (mn_newL _ _ _ n rfl hs h1 (by omega))) rfl ?_
      rintro _ w ⟨b20, k20, c20, L, rfl, hLe, hLn, hLa, T⟩
      have S := S.merge T rfl
      have hma := mkeys_all s n
      have hml := mkeys_len s n
      refine p_val (e_move (v := .tuple _) rfl) rfl ?_
      refine p_val (e_extract rfl rfl) rfl ?_
      refine p_val (e_extract rfl rfl) rfl ?_
      refine p_val (e_assign (v := .pointer _) rfl) rfl ?_
      refine p_val (e_assign (v := .int _ _) rfl) rfl ?_
      refine p_nil (x_then (s_seq (s_seq ?_)))
      refine s_cutK (ks := [some b20, k20, some b3]) (ps := [Ex _ _, Rw _ _ _ _ _, Ex _ _]) [(1, .int _ _), (2, .int _ _), (3, .pointer _), (7, .pointer _), (8, .int _ _)] ⟨rfl, rfl, rfl, rfl, rfl, trivial⟩ S (fun keep ks ps f' w' => ∃ u bb, f' = upds u ((28, .bool bb) :: keep) ∧ (bb = true ↔ (((n : Int) < (1 : Int)) ∨ ((64 : Int) < (n : Int)))) ∧ St w0 w' [] ks ps) ?_ ?_
      · refine s_plain ?_
        refine p_val (e_move (v := .int _ _) rfl) rfl ?_
        refine p_valB (e_lss rfl rfl) rfl (fun hg24 => ?_) (fun hg24 => ?_)
        · refine p_val (e_move (v := .bool _) rfl) rfl ?_
          refine p_no rfl rfl rfl rfl rfl ?_
          refine p_no rfl rfl rfl rfl rfl ?_
          refine p_val (e_pick_t rfl rfl) rfl ?_
          exact p_nil (x_then ⟨_, rfl, _, _, upds_eq ⟨rfl, rfl, rfl, rfl, rfl, rfl, trivial⟩, by first | (simp only [decide_eq_true_eq, eq_self, true_iff, iff_true, iff_false, Bool.false_eq_true, false_iff, ge_iff_le, gt_iff_lt, true_and, and_true, false_and, and_false, true_or, or_true, false_or, or_false, not_true_eq_false, not_false_eq_true]; omega) | (simp; done) | omega | (simp_all; done), S⟩)
        · refine p_val (e_move (v := .bool _) rfl) rfl ?_
          refine pg_val rfl rfl rfl rfl rfl (e_move (v := .int _ _) rfl) ?_
          refine pg_val rfl rfl rfl rfl rfl (e_gtr rfl rfl) ?_
          refine p_val (e_pick_f rfl rfl) rfl ?_
          exact p_nil (x_then ⟨_, rfl, _, _, upds_eq ⟨rfl, rfl, rfl, rfl, rfl, rfl, trivial⟩, by first | (simp only [decide_eq_true_eq, eq_self, true_iff, iff_true, iff_false, Bool.false_eq_true, false_iff, ge_iff_le, gt_iff_lt, true_and, and_true, false_and, and_false, true_or, or_true, false_or, or_false, not_true_eq_false, not_false_eq_true]; omega) | (simp; done) | omega | (simp_all; done), S⟩)
      · rintro f w ⟨u, b28, rfl, hb28, S⟩
        refine x_then ?_
        refine s_condb rfl (fun hc28 => ?_) (fun hc28 => ?_)
        · exact False.elim ((fun (hp28 : (((n : Int) < (1 : Int)) ∨ ((64 : Int) < (n : Int)))) => by omega) (hb28.1 hc28))
        · have hp28 : ¬ (((n : Int) < (1 : Int)) ∨ ((64 : Int) < (n : Int))) := fun h => by rw [hb28.2 h] at hc28; cases hc28
          refine s_skip (x_then (s_seq (s_seq ?_)))
          refine s_cutK (ks := [some b20, k20, some b3]) (ps := [Ex _ _, Rw _ _ _ _ _, Ex _ _]) [(1, .int _ _), (2, .int _ _), (7, .pointer _)] ⟨rfl, rfl, rfl, trivial⟩ S (fun keep ks ps f' w' => ∃ u bb, f' = upds u ((63, .bool bb) :: keep) ∧ (bb = true ↔ False) ∧ St w0 w' [] ks ps) ?_ ?_
          · refine s_drawK (ks := [some b3]) (ps := [Ex _ _]) (S.pk [2] rfl) [(true, 0), (true, 1), (true, 2), (true, 3), (true, 4), (true, 5), (true, 6), (true, 7), (true, 9), (true, 10), (false, 8), (false, 11), (false, 12), (true, 13), (true, 14), (true, 15), (true, 16), (true, 18), (false, 17), (true, 19), (true, 20), (true, 21), (true, 22), (false, 23), (true, 24), (true, 25)] [] [] mixed (by kernel_rfl) (by repeat (first | exact Calm.post _ _ _ | refine Calm.then ?_ _ | refine Calm.inB ?_ _)) (fun hS => ?_)
            have S := S.drew
            refine q_val (fun w hS => e_move (v := .pointer _) rfl) rfl hS ?_
            refine q_valb (fun w hS => e_eqlP rfl rfl Try.underlying91) rfl hS (fun hg39 => ?_) (fun hg39 => ?_)
            · exact False.elim (by simp at hg39)
            · refine q_val (fun w hS => e_move (v := .bool _) rfl) rfl hS ?_
              refine qg_val rfl rfl rfl rfl rfl (fun w hS => e_move (v := .int _ _) rfl) hS ?_
              refine qg_valB rfl rfl rfl rfl rfl (fun w hS => e_neq rfl rfl) hS (fun hg42 => ?_) (fun hg42 => ?_)
              · exact False.elim (hg42 rfl)
              · refine q_val (fun w hS => e_pick_f rfl rfl) rfl hS ?_
                refine q_val (fun w hS => e_move (v := .bool _) rfl) rfl hS ?_
                refine qg_val rfl rfl rfl rfl rfl (fun w hS => e_move (v := .pointer _) rfl) hS ?_
                refine qg_val rfl rfl rfl rfl rfl (fun w hS => e_loadW 0 rfl ag29 sz29 hS rfl rfl (by first | with_reducible assumption | (rw [bv_length]; with_reducible assumption) | (rw [List.size_toArray, bv_length]; with_reducible assumption) | (simp [cat, hs, length_mroot, Value.cells]; done) | (simp [cat, hs, length_mroot, Value.cells]; omega) | rfl)) hS ?_
                refine qg_val rfl rfl rfl rfl rfl (fun w hS => e_move (v := .int _ _) rfl) hS ?_
                refine qg_does rfl rfl rfl rfl rfl (d_call Try.func72 nm72 rfl rfl (mn_root _ _ _ _ _ _ _ (S.hr [0, 1] rfl) (by first | with_reducible assumption | (rw [bv_length]; with_reducible assumption) | (rw [List.size_toArray, bv_length]; with_reducible assumption) | (simp [cat, hs, length_mroot, Value.cells]; done) | (simp [cat, hs, length_mroot, Value.cells]; omega) | rfl) (by with_reducible assumption) (by omega))) ?_
                rintro _ w ⟨rfl, T⟩
                have S := (S.call [0, 1] T rfl).pk [0, 1, 4] rfl
                have hS := S.pk [2] rfl
                refine ⟨hS, ?_⟩
                refine qg_does rfl rfl rfl rfl rfl (d_call Try.func60 nm60 rfl rfl (l5leaves _ _ _ (by first | with_reducible assumption | (rw [bv_length]; with_reducible assumption) | (rw [List.size_toArray, bv_length]; with_reducible assumption) | (simp [cat, hs, length_mroot, Value.cells]; done) | (simp [cat, hs, length_mroot, Value.cells]; omega) | rfl) (by omega))) ?_
                rintro _ w ⟨k49, c49, rfl, T⟩
                have S := S.merge T rfl
                have hS := S.pk [3] rfl
                refine ⟨hS, ?_⟩
                refine qg_does rfl rfl rfl rfl rfl (d_call Try.func42 nm42 rfl rfl (mk_root _ _ _ (mkeys s n) (S.rdRw 0 rfl rfl) hma (by omega))) ?_
                rintro _ w ⟨rfl, hB⟩
                have S := S.below hB
                have hS := S.pk [3] rfl
                refine ⟨hS, ?_⟩
                refine qg_valB rfl rfl rfl rfl rfl (fun w hS => EqT.sumN eq29 gd29 rfl rfl (by first | with_reducible assumption | (rw [bv_length]; with_reducible assumption) | (rw [List.size_toArray, bv_length]; with_reducible assumption) | (simp [cat, hs, length_mroot, Value.cells]; done) | (simp [cat, hs, length_mroot, Value.cells]; omega) | rfl) (by first | with_reducible assumption | (rw [bv_length]; with_reducible assumption) | (rw [List.size_toArray, bv_length]; with_reducible assumption) | (simp [cat, hs, length_mroot, Value.cells]; done) | (simp [cat, hs, length_mroot, Value.cells]; omega) | rfl)) hS (fun hg51 => ?_) (fun hg51 => ?_)
                · exact False.elim (hg51 (by rw [hLe]))
                · refine q_val (fun w hS => e_pick_f rfl rfl) rfl hS ?_
                  refine q_val (fun w hS => e_move (v := .bool _) rfl) rfl hS ?_
                  refine qg_val rfl rfl rfl rfl rfl (fun w hS => e_move (v := .pointer _) rfl) hS ?_
                  refine qg_val rfl rfl rfl rfl rfl (fun w hS => e_move (v := .int _ _) rfl) hS ?_
                  refine qg_does rfl rfl rfl rfl rfl (d_call Try.func63 nm63 rfl rfl (mn_left _ _ _ _ _ _ _ _ (S.hr [1, 2] rfl) (by first | with_reducible assumption | (rw [bv_length]; with_reducible assumption) | (rw [List.size_toArray, bv_length]; with_reducible assumption) | (simp [cat, hs, length_mroot, Value.cells]; done) | (simp [cat, hs, length_mroot, Value.cells]; omega) | rfl) (by omega) (by omega))) ?_
                  rintro _ w ⟨rfl, T⟩
                  have S := (S.call [1, 2] T rfl).pk [2, 0, 1, 5] rfl
                  have hS := S.pk [3] rfl
                  refine ⟨hS, ?_⟩
                  refine qg_valB rfl rfl rfl rfl rfl (fun w hS => e_neq rfl rfl) hS (fun hg57 => ?_) (fun hg57 => ?_)
                  · exact False.elim (by omega)
                  · refine q_val (fun w hS => e_pick_f rfl rfl) rfl hS ?_
                    refine q_val (fun w hS => e_move (v := .bool _) rfl) rfl hS ?_
                    refine qg_val rfl rfl rfl rfl rfl (fun w hS => e_move (v := .pointer _) rfl) hS ?_
                    refine qg_does rfl rfl rfl rfl rfl (d_call Try.func70 nm70 rfl rfl (mn_next _ _ _ _ _ _ _ _ (S.hr [1, 2] rfl) (by first | with_reducible assumption | (rw [bv_length]; with_reducible assumption) | (rw [List.size_toArray, bv_length]; with_reducible assumption) | (simp [cat, hs, length_mroot, Value.cells]; done) | (simp [cat, hs, length_mroot, Value.cells]; omega) | rfl))) ?_
                    rintro _ w ⟨rfl, T⟩
                    have S := (S.call [1, 2] T rfl).pk [2, 0, 1, 5] rfl
                    have hS := S.pk [3] rfl
                    refine ⟨hS, ?_⟩
                    refine qg_val rfl rfl rfl rfl rfl (fun w hS => e_neq rfl rfl) hS ?_
                    refine q_val (fun w hS => e_pick_f rfl rfl) rfl hS ?_
                    refine q_nil ?_
                    exact p_nil (x_then ⟨_, rfl, _, _, upds_eq ⟨rfl, rfl, rfl, rfl, trivial⟩, by first | (simp only [decide_eq_true_eq, eq_self, true_iff, iff_true, iff_false, Bool.false_eq_true, false_iff, ge_iff_le, gt_iff_lt, true_and, and_true, false_and, and_false, true_or, or_true, false_or, or_false, not_true_eq_false, not_false_eq_true]; omega) | (simp; done) | omega | (simp_all; done), S.pk [1, 2, 3] rfl⟩)
          · rintro f w ⟨u, b63, rfl, hb63, S⟩
            refine x_then ?_
            refine s_condb rfl (fun hc63 => ?_) (fun hc63 => ?_)
            · have hp63 : False := hb63.1 hc63
              refine s_seq (s_plain ?_)
              refine p_val (e_assign (v := .bool _) rfl) rfl ?_
              refine p_nil (x_then (s_ret (x_then_ret ?_)))
              exact post1 (v := .bool _) Try.results15 rfl (hp63.elim)
            · have hp63 : ¬ False := fun h => by rw [hb63.2 h] at hc63; cases hc63
              refine s_skip (x_then (s_seq (s_plain ?_)))
              refine p_val (e_move (v := .pointer _) rfl) rfl ?_
              refine p_val (e_move (v := .int _ _) rfl) rfl ?_
              refine p_does (d_call Try.func73 nm73 rfl rfl (mn_skip _ _ _ _ _ _ _ _ _ (S.hr [0, 1] rfl) (by first | with_reducible assumption | (rw [bv_length]; with_reducible assumption) | (rw [List.size_toArray, bv_length]; with_reducible assumption) | (simp [cat, hs, length_mroot, Value.cells]; done) | (simp [cat, hs, length_mroot, Value.cells]; omega) | rfl) (by omega) (by omega))) rfl ?_
              rintro _ w ⟨rfl, T⟩
              have S := (S.call [0, 1] T rfl).pk [0, 1, 4] rfl
              refine p_val (e_assign (v := .int _ _) rfl) rfl ?_
              refine p_nil (x_then (s_seq (s_seq ?_)))
              refine s_cutK (ks := [some b20, k20, some b3]) (ps := [Ex _ _, Rw _ _ _ _ _, Ex _ _]) [(1, .int _ _), (2, .int _ _), (7, .pointer _), (9, .int _ _)] ⟨rfl, rfl, rfl, rfl, trivial⟩ S (fun keep ks ps f' w' => ∃ u bb, f' = upds u ((73, .bool bb) :: keep) ∧ (bb = true ↔ ((a < (0 : Int)) ∨ ((n : Int) < a))) ∧ St w0 w' [] ks ps) ?_ ?_
              · refine s_plain ?_
                refine p_val (e_move (v := .int _ _) rfl) rfl ?_
                refine p_valB (e_lss rfl rfl) rfl (fun hg68 => ?_) (fun hg68 => ?_)
                · refine p_val (e_move (v := .bool _) rfl) rfl ?_
                  refine p_no rfl rfl rfl rfl rfl ?_
                  refine p_no rfl rfl rfl rfl rfl ?_
                  refine p_no rfl rfl rfl rfl rfl ?_
                  refine p_val (e_pick_t rfl rfl) rfl ?_
                  exact p_nil (x_then ⟨_, rfl, _, _, upds_eq ⟨rfl, rfl, rfl, rfl, rfl, trivial⟩, by first | (simp only [decide_eq_true_eq, eq_self, true_iff, iff_true, iff_false, Bool.false_eq_true, false_iff, ge_iff_le, gt_iff_lt, true_and, and_true, false_and, and_false, true_or, or_true, false_or, or_false, not_true_eq_false, not_false_eq_true]; omega) | (simp; done) | omega | (simp_all; done), S⟩)
                · refine p_val (e_move (v := .bool _) rfl) rfl ?_
                  refine pg_val rfl rfl rfl rfl rfl (e_move (v := .int _ _) rfl) ?_
                  refine pg_val rfl rfl rfl rfl rfl (e_move (v := .int _ _) rfl) ?_
                  refine pg_val rfl rfl rfl rfl rfl (e_gtr rfl rfl) ?_
                  refine p_val (e_pick_f rfl rfl) rfl ?_
                  exact p_nil (x_then ⟨_, rfl, _, _, upds_eq ⟨rfl, rfl, rfl, rfl, rfl, trivial⟩, by first | (simp only [decide_eq_true_eq, eq_self, true_iff, iff_true, iff_false, Bool.false_eq_true, false_iff, ge_iff_le, gt_iff_lt, true_and, and_true, false_and, and_false, true_or, or_true, false_or, or_false, not_true_eq_false, not_false_eq_true]; omega) | (simp; done) | omega | (simp_all; done), S⟩)
              · rintro f w ⟨u, b73, rfl, hb73, S⟩
                refine x_then ?_
                refine s_condb rfl (fun hc73 => ?_) (fun hc73 => ?_)
                · have hp73 : ((a < (0 : Int)) ∨ ((n : Int) < a)) := hb73.1 hc73
                  have hp : a < 0 ∨ (L.length : Int) < a := by omega
                  rw [if_pos hp] at S
                  refine s_seq ?_
                  refine s_cutK (ks := [some b20, k20, some b3]) (ps := [Ex _ _, Rw _ _ _ _ _, Ex _ _]) [] trivial S (fun keep ks ps f' w' => ∃ u bb, f' = upds u ((6, .bool bb) :: keep) ∧ (bb = true ↔ True) ∧ St w0 w' [] ks ps) ?_ ?_
                  · refine s_plain ?_
                    refine p_val (e_move (v := .int _ _) rfl) rfl ?_
                    refine p_valB (e_eql rfl rfl) rfl (fun hg75 => ?_) (fun hg75 => ?_)
                    · refine p_val (e_move (v := .bool _) rfl) rfl ?_
                      refine pg_val rfl rfl rfl rfl rfl (e_move (v := .pointer _) rfl) ?_
                      refine pg_does rfl rfl rfl rfl rfl (d_call Try.func70 nm70 rfl rfl (mn_next _ _ _ _ _ _ _ _ (S.hr [0, 1] rfl) (by first | with_reducible assumption | (rw [bv_length]; with_reducible assumption) | (rw [List.size_toArray, bv_length]; with_reducible assumption) | (simp [cat, hs, length_mroot, Value.cells]; done) | (simp [cat, hs, length_mroot, Value.cells]; omega) | rfl))) ?_
                      rintro _ w ⟨rfl, T⟩
                      have S := (S.call [0, 1] T rfl).pk [0, 1, 4] rfl
                      refine pg_valB rfl rfl rfl rfl rfl (e_eql rfl rfl) (fun hg79 => ?_) (fun hg79 => ?_)
                      · refine p_val (e_pick_t rfl rfl) rfl ?_
                        refine p_val (e_move (v := .bool _) rfl) rfl ?_
                        refine pg_does rfl rfl rfl rfl rfl (d_call Try.func58 nm58 rfl rfl (l5awake _)) ?_
                        rintro _ w ⟨rfl, hB⟩
                        have S := S.below hB
                        refine p_val (e_pick_t rfl rfl) rfl ?_
                        refine p_val (e_assign (v := .bool _) rfl) rfl ?_
                        exact p_nil (x_then ⟨_, rfl, _, _, upds_eq ⟨rfl, trivial⟩, by first | (simp only [decide_eq_true_eq, eq_self, true_iff, iff_true, iff_false, Bool.false_eq_true, false_iff, ge_iff_le, gt_iff_lt, true_and, and_true, false_and, and_false, true_or, or_true, false_or, or_false, not_true_eq_false, not_false_eq_true]; omega) | (simp; done) | omega | (simp_all; done), S⟩)
                      · exact False.elim (hg79 rfl)
                    · exact False.elim (hg75 (if_pos hp))
                  · rintro f w ⟨u, b6, rfl, hb6, S⟩
                    refine x_then (s_ret (x_then_ret ?_))
                    exact post1 (v := .bool _) Try.results15 rfl (by rw [hb6.2 trivial]; exact ⟨rfl, S.to_below⟩)
                · have hp73 : ¬ ((a < (0 : Int)) ∨ ((n : Int) < a)) := fun h => by rw [hb73.2 h] at hc73; cases hc73
                  have hp : ¬ (a < 0 ∨ (L.length : Int) < a) := by omega
                  rw [if_neg hp] at S
                  refine s_skip (x_then (s_seq ?_))
                  refine s_cutK (ks := [some b20, k20, some b3]) (ps := [Ex _ _, Rw _ _ _ _ _, Ex _ _]) [] trivial S (fun keep ks ps f' w' => ∃ u bb, f' = upds u ((6, .bool bb) :: keep) ∧ (bb = true ↔ True) ∧ St w0 w' [] ks [keyE k20 L.length c20 s (if a - 1 < a ∨ (L.length : Int) < a - 1 then a else a - 1), (ps.getD 1 fun _ => True), (ps.getD 2 fun _ => True)]) ?_ ?_
                  · refine s_plain ?_
                    refine p_val (e_move (v := .int _ _) rfl) rfl ?_
                    refine p_valB (e_eql rfl rfl) rfl (fun hg85 => ?_) (fun hg85 => ?_)
                    · refine p_val (e_move (v := .bool _) rfl) rfl ?_
                      refine pg_val rfl rfl rfl rfl rfl (e_move (v := .pointer _) rfl) ?_
                      refine pg_does rfl rfl rfl rfl rfl (d_call Try.func70 nm70 rfl rfl (mn_next _ _ _ _ _ _ _ _ (S.hr [0, 1] rfl) (by first | with_reducible assumption | (rw [bv_length]; with_reducible assumption) | (rw [List.size_toArray, bv_length]; with_reducible assumption) | (simp [cat, hs, length_mroot, Value.cells]; done) | (simp [cat, hs, length_mroot, Value.cells]; omega) | rfl))) ?_
                      rintro _ w ⟨rfl, T⟩
                      have S := (S.call [0, 1] T rfl).pk [0, 1, 4] rfl
                      refine pg_val rfl rfl rfl rfl rfl (e_move (v := .int _ _) rfl) ?_
                      refine pg_valB rfl rfl rfl rfl rfl (e_eql rfl rfl) (fun hg90 => ?_) (fun hg90 => ?_)
                      · refine p_val (e_pick_t rfl rfl) rfl ?_
                        refine p_val (e_move (v := .bool _) rfl) rfl ?_
                        refine pg_val rfl rfl rfl rfl rfl (e_move (v := .pointer _) rfl) ?_
                        refine pg_does rfl rfl rfl rfl rfl (d_call Try.func63 nm63 rfl rfl (mn_left _ _ _ _ _ _ _ _ (S.hr [0, 1] rfl) (by first | with_reducible assumption | (rw [bv_length]; with_reducible assumption) | (rw [List.size_toArray, bv_length]; with_reducible assumption) | (simp [cat, hs, length_mroot, Value.cells]; done) | (simp [cat, hs, length_mroot, Value.cells]; omega) | rfl) (by omega) (by omega))) ?_
                        rintro _ w ⟨rfl, T⟩
                        have S := (S.call [0, 1] T rfl).pk [0, 1, 4] rfl
                        refine pg_val rfl rfl rfl rfl rfl (e_move (v := .int _ _) rfl) ?_
                        refine pg_val rfl rfl rfl rfl rfl (e_move (v := .int _ _) rfl) ?_
                        refine pg_val rfl rfl rfl rfl rfl (e_sub64 rfl rfl (by omega)) ?_
                        refine pg_valB rfl rfl rfl rfl rfl (e_eql rfl rfl) (fun hg98 => ?_) (fun hg98 => ?_)
                        · refine p_val (e_pick_t rfl rfl) rfl ?_
                          refine p_val (e_move (v := .bool _) rfl) rfl ?_
                          refine pg_val rfl rfl rfl rfl rfl (e_move (v := .pointer _) rfl) ?_
                          refine pg_val rfl rfl rfl rfl rfl (e_move (v := .int _ _) rfl) ?_
                          refine pg_val rfl rfl rfl rfl rfl (e_sub64 rfl rfl (by omega)) ?_
                          refine pg_does rfl rfl rfl rfl rfl (d_call Try.func73 nm73 rfl rfl (mn_skip _ _ _ _ _ _ _ _ _ (S.hr [0, 1] rfl) (by first | with_reducible assumption | (rw [bv_length]; with_reducible assumption) | (rw [List.size_toArray, bv_length]; with_reducible assumption) | (simp [cat, hs, length_mroot, Value.cells]; done) | (simp [cat, hs, length_mroot, Value.cells]; omega) | rfl) (by omega) (by omega))) ?_
                          rintro _ w ⟨rfl, T⟩
                          have S := (S.call [0, 1] T rfl).pk [0, 1, 4] rfl
                          refine pg_valB rfl rfl rfl rfl rfl (e_eql rfl rfl) (fun hg105 => ?_) (fun hg105 => ?_)
                          · refine p_val (e_pick_t rfl rfl) rfl ?_
                            refine p_val (e_move (v := .bool _) rfl) rfl ?_
                            refine p_val (e_pick_t rfl rfl) rfl ?_
                            refine p_val (e_move (v := .bool _) rfl) rfl ?_
                            refine pg_does rfl rfl rfl rfl rfl (d_call Try.func58 nm58 rfl rfl (l5awake _)) ?_
                            rintro _ w ⟨rfl, hB⟩
                            have S := S.below hB
                            refine p_val (e_pick_t rfl rfl) rfl ?_
                            refine p_val (e_assign (v := .bool _) rfl) rfl ?_
                            exact p_nil (x_then ⟨_, rfl, _, _, upds_eq ⟨rfl, trivial⟩, by first | (simp only [decide_eq_true_eq, eq_self, true_iff, iff_true, iff_false, Bool.false_eq_true, false_iff, ge_iff_le, gt_iff_lt, true_and, and_true, false_and, and_false, true_or, or_true, false_or, or_false, not_true_eq_false, not_false_eq_true]; omega) | (simp; done) | omega | (simp_all; done), S⟩)
                          · exact False.elim (hg105 (if_pos (by omega)))
                        · exact False.elim (by omega)
                      · exact False.elim (hg90 rfl)
                    · exact False.elim (hg85 (if_neg hp))
                  · rintro f w ⟨u, b6, rfl, hb6, S⟩
                    refine x_then (s_ret ?_)
                    exact post1 (v := .bool _) Try.results15 rfl (by rw [hb6.2 trivial]; exact ⟨rfl, S.to_below⟩)
theorem mnews_calls (w0 : World) (s : List Nat) (n a : Int) (hs : s.length = 32) :
     Ret Try.prog 15 [.agg (bv s).toArray, .int .i64 n, .int .i64 a] w0 fun v w' => v = .bool true ∧ Below w0.heap.size w0 w' := by
  by_cases h : n < 1 ∨ 64 < n
  · exact mnews_out w0 s n a hs h
  · by_cases h2 : 8 < n
    · exact mnews_big w0 s n a hs ⟨h2, by omega⟩
    · obtain ⟨m, rfl⟩ := Int.eq_ofNat_of_zero_le (show 0 ≤ n by omega)
      exact mnews_in w0 s m a hs (by omega) (by omega)
end Go.Proofs.Ytdhfiamgmokfbaa
