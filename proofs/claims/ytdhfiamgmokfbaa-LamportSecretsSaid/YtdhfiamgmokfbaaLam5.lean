/- What a signature leads back to. It proves no statement by itself. -/
import Derived.Test.YtdhfiamgmokfbaaLam4
set_option linter.unusedSimpArgs false
set_option linter.unusedVariables false
set_option maxRecDepth 100000
set_option maxHeartbeats 2000000
namespace Go.Proofs.Ytdhfiamgmokfbaa
open Go Go.RowKit E
def lzeros : List Nat := List.replicate 32 0
def half (g : List Nat) (i : Nat) : List Nat := (g.drop (64 * i)).take 32
def oth (g : List Nat) (i : Nat) : List Nat := (g.drop (64 * i + 32)).take (64 * i + 64 - (64 * i + 32))
theorem length_half {g : List Nat} {i : Nat} (h : g.length = 4096) (hi : i < 64) : (half g i).length = 32 := by simp [half, h]; omega
theorem length_oth {g : List Nat} {i : Nat} (h : g.length = 4096) (hi : i < 64) : (oth g i).length = 32 := by simp [oth, h]; omega
def backB (d g : List Nat) : Nat → List Nat
  | 0 => []
  | i + 1 => backB d g i ++ (if lbit d i = 0 then lshown (half g i) ++ oth g i else oth g i ++ lshown (half g i))
theorem length_backB {d g : List Nat} (h : g.length = 4096) : ∀ i, i ≤ 64 → (backB d g i).length = 64 * i
  | 0, _ => rfl
  | i + 1, hi => by
    have h1 := length_oth h (show i < 64 by omega)
    rw [backB, List.length_append, length_backB h i (by omega)]
    split <;> rw [List.length_append, length_lshown, h1] <;> omega
@[irreducible] def lback (l g : List Nat) : List Nat := join 13 [backB (ldig l) g 64]
theorem length_lback (l g : List Nat) : (lback l g).length = 32 := by unfold lback; exact length_join _ _
theorem half_cells {g : List Nat} {i n : Nat} (hn : n = 4096) (hi : i < 64) (z : List Value) (hz : z.length = 32) :
    (z.toArray.toList.take 0 ++ (bv (g.drop (64 * i))).take 32 ++ z.toArray.toList.drop (0 + min (n - 64 * i) 32)).toArray = (bv (half g i)).toArray := by
  have e : z.toArray.toList.drop (0 + min (n - 64 * i) 32) = [] := List.drop_of_length_le (by show z.length ≤ _; omega)
  rw [e, List.take_zero, List.nil_append, List.append_nil, bv_take]
  rfl
theorem lback_calls (w0 : World) (A A2 : Option Addr) (n c0 n2 cc : Nat) (l g2 : List Nat) (R : Rd w0 1 A n (bv l)) (hn : n ≤ 1099511620000) (R2 : Rd w0 1 A2 n2 (bv g2)) (hcc : n2 ≤ cc) :
    Ret Try.prog 30 [.slice A n c0, .slice A2 n2 cc] w0 fun v w' => v = (if n2 = 4096 then .tuple #[.agg (bv (lback l g2)).toArray, .int .i64 0] else .tuple #[.agg (bv lzeros).toArray, .int .i64 11]) ∧ Below w0.heap.size w0 w' := by
  have hl2 : g2.length = n2 := by simpa using R2.1
  refine enter Try.func30 rfl Try.ntmps30 (Nat.le_of_ble_eq_true rfl) ?_
  have S := St.init w0
  refine s_seq (s_plain ?_)
  refine p_does (d_allocA S zv29) rfl ?_
  rintro _ w ⟨b1, rfl, S⟩
  refine p_val (e_assign (v := .int _ _) rfl) rfl ?_
  refine p_nil (x_then (s_seq (s_seq (s_plain ?_))))
  refine p_val (e_move (v := .slice _ _ _) rfl) rfl ?_
  refine p_val (e_len rfl Try.underlying33) rfl ?_
  refine p_val (e_neq rfl rfl) rfl ?_
  refine p_nil (x_then ?_)
  refine s_cond rfl (fun hc1 => ?_) (fun hc1 => ?_)
  · refine s_seq (s_plain ?_)
    refine p_val (e_build (cs := zl29) (by kernel_rfl)) rfl ?_
    refine p_does (d_storeW S 0 rfl rfl (bv_one lzeros) sz29 (by rfl) rfl rfl (by rfl)) rfl ?_
    intro _ w S
    refine p_val (e_assign (v := .int _ _) rfl) rfl ?_
    refine p_nil (x_then (s_ret (x_then_ret ?_)))
    exact postC1 Try.results30 S 0 rfl rfl rfl rfl ag29 sz29 (by rfl) ⟨by rw [if_neg (by omega)]; rfl, S.to_below⟩
  · have h4 : g2.length = 4096 := (by omega)
    refine s_skip (x_then (s_seq (s_plain ?_)))
    refine p_val (e_move (v := .slice _ _ _) rfl) rfl ?_
    refine p_does (d_call Try.func33 nm33 rfl rfl (ldig_calls _ A n c0 l (S.rdOld R rfl) hn)) rfl ?_
    rintro _ w ⟨rfl, hB⟩
    have S := S.below hB
    refine p_does (d_allocA S zv29) rfl ?_
    rintro _ w ⟨b2, rfl, S⟩
    refine p_does (d_storeW S 0 rfl rfl (bv_one _) sz29 (by simp [length_ldig]) rfl rfl (by rfl)) rfl ?_
    intro _ w S
    refine p_nil (x_then (s_seq (s_plain ?_)))
    refine p_does (d_make0 S Try.underlying33 el5 4096 rfl rfl (by decide) (by decide)) rfl ?_
    rintro _ w ⟨b3, rfl, S⟩
    refine p_val (e_assign (v := .slice _ _ _) rfl) rfl ?_
    refine p_nil (x_then (s_seq (s_seq (s_plain ?_))))
    refine p_val (e_move (v := .int _ _) rfl) rfl ?_
    refine p_nil (x_then (s_block ?_))
    refine s_loop (α := Nat) (fun g f' w' => ∃ u k c m, f' = upds u [(1, .slice A2 n2 cc), (4, .pointer (some ⟨b1, 0, none⟩)), (6, .pointer (some ⟨b2, 0, none⟩)), (7, .slice (at_ k) m c), (19, .int .i64 (g : Int))] ∧ g ≤ 64 ∧ m = 64 * g ∧ St w0 w' [] [k, some b2, some b1] [Rw 5 1 m c (bv (backB (ldig l) g2 g)), Ex (bv (ldig l)).toArray 29, Ex zl29.toArray 29]) (fun g => 64 - g) (0) (⟨_, _, _, _, upds_eq ⟨rfl, rfl, rfl, rfl, rfl, trivial⟩, by omega, rfl, S⟩) ?_
    rintro g f w ⟨u, k, c, m, rfl, hg, hm, S⟩
    refine s_seq (s_plain ?_)
    refine p_val (e_lss rfl rfl) rfl ?_
    refine p_nil (x_then (s_seq ?_))
    refine s_cond rfl (fun hc2 => ?_) (fun hc2 => ?_)
    · refine s_skip (x_then (s_seq ?_))
      refine s_cut (fun f f' w' => ∃ u k c m, f' = upds u [(1, .slice A2 n2 cc), (4, .pointer (some ⟨b1, 0, none⟩)), (6, .pointer (some ⟨b2, 0, none⟩)), (7, .slice (at_ k) m c), (19, .int .i64 (g : Int))] ∧ m = 64 * (g + 1) ∧ St w0 w' [] [k, some b2, some b1] [Rw 5 1 m c (bv (backB (ldig l) g2 (g + 1))), Ex (bv (ldig l)).toArray 29, Ex zl29.toArray 29]) ?_ ?_
      · refine s_block (s_seq (s_plain ?_))
        refine p_val (e_move (v := .int _ _) rfl) rfl ?_
        refine p_val (e_assign (v := .int _ _) rfl) rfl ?_
        refine p_nil (x_then (s_seq (s_plain ?_)))
        refine p_does (d_allocA S zv28) rfl ?_
        rintro _ w ⟨b7, rfl, S⟩
        refine p_nil (x_then (s_seq ?_))
        refine s_draw [(true, 0), (true, 1), (true, 2), (true, 3), (true, 4), (false, 5)] (fun w' => True) mixed (by kernel_rfl) (by repeat (first | exact Calm.post _ _ _ | refine Calm.then ?_ _ | refine Calm.inB ?_ _)) ?_
        have S := S.drew
        have hS := trivial
        refine q_val (fun w hS => e_sl_arr rfl Try.underlying28 sz5) rfl hS ?_
        refine q_val (fun w hS => e_move (v := .slice _ _ _) rfl) rfl hS ?_
        refine q_val (fun w hS => e_move (v := .int _ _) rfl) rfl hS ?_
        refine q_val (fun w hS => e_mul64 rfl rfl (by omega)) rfl hS ?_
        refine q_val (fun w hS => e_sl_l (64 * g) rfl rfl (by omega) (by omega) Try.underlying33 sz5) rfl hS ?_
        refine q_does (d_copy (off := 0) S 0 rfl rfl Try.underlying33 (by kernel_rfl) rfl rfl (Rd.drop_bv (m := 64 * g) (S.rdOld R2 rfl) (by omega) hcc) ((bv_one _)) (by show 0 + min (n2 - 64 * g) 32 ≤ 32; omega)) rfl ?_
        rintro _ w ⟨rfl, S⟩; have S := S.asEx (half_cells (g := g2) (by omega) (show g < 64 by omega) _ rfl); have hS := trivial; refine ⟨hS, ?_⟩
        refine q_nil (x_then (s_seq (s_plain ?_)))
        refine p_val (e_loadEx rfl ag28 sz28 S 0 rfl rfl (by rw [List.size_toArray, bv_length]; exact length_half h4 (by omega))) rfl ?_
        refine p_does (d_call Try.func36 nm36 rfl rfl (lshown_calls _ _ (length_half h4 (by omega)))) rfl ?_
        rintro _ w ⟨rfl, hB⟩
        have S := S.below hB
        refine p_does (d_allocA S zv29) rfl ?_
        rintro _ w ⟨b8, rfl, S⟩
        refine p_does (d_storeW S 0 rfl rfl (bv_one _) sz29 (by simp [length_lshown]) rfl rfl (by rfl)) rfl ?_
        intro _ w S
        refine p_nil (x_then (s_seq (s_plain ?_)))
        refine p_val (e_move (v := .slice _ _ _) rfl) rfl ?_
        refine p_val (e_move (v := .int _ _) rfl) rfl ?_
        refine p_val (e_mul64 rfl rfl (by omega)) rfl ?_
        refine p_val (e_add64 rfl rfl (by omega)) rfl ?_
        refine p_val (e_move (v := .int _ _) rfl) rfl ?_
        refine p_val (e_mul64 rfl rfl (by omega)) rfl ?_
        refine p_val (e_add64 rfl rfl (by omega)) rfl ?_
        refine p_val (e_sl_lh (64 * g + 32) (64 * g + 64) rfl rfl rfl (by omega) (by omega) (by omega) (by omega) Try.underlying33 sz5) rfl ?_
        refine p_val (e_assign (v := .slice _ _ _) rfl) rfl ?_
        refine p_nil (x_then (s_seq (s_plain ?_)))
        refine p_val (e_loadEx rfl ag29 sz29 S 3 rfl rfl (by simp [length_ldig])) rfl ?_
        refine p_val (e_move (v := .int _ _) rfl) rfl ?_
        refine p_does (d_call Try.func84 nm84 rfl rfl (lbit_calls _ (ldig l) g (length_ldig l) (by omega))) rfl ?_
        rintro _ w ⟨rfl, hB⟩
        have S := S.below hB
        refine p_val (e_eql rfl rfl) rfl ?_
        refine p_nil (x_then ?_)
        refine s_cond rfl (fun hc3 => ?_) (fun hc3 => ?_)
        · refine s_plain ?_
          refine p_val (e_move (v := .slice _ _ _) rfl) rfl ?_
          refine p_val (e_sl_arr rfl Try.underlying29 sz5) rfl ?_
          refine p_does (d_append S 2 rfl rfl Try.underlying33 el5 rfl rfl (S.rdBytes 0 rfl rfl (length_lshown _)) ((bv_one _)) (by omega) (by unfold maxLen; omega)) rfl ?_
          rintro _ w ⟨k44, c44, rfl, S⟩
          refine p_val (e_move (v := .slice _ _ _) rfl) rfl ?_
          refine p_does (d_append S 2 rfl rfl Try.underlying33 el5 rfl rfl (S.rdOld (Rd.take_bv (Rd.drop_bv (m := 64 * g + 32) R2 (by omega) hcc) (by omega)) rfl) ((bv_one _)) (by omega) (by unfold maxLen; omega)) rfl ?_
          rintro _ w ⟨k46, c46, rfl, S⟩
          refine p_val (e_assign (v := .slice _ _ _) rfl) rfl ?_
          refine p_nil (x_in ?_)
          exact x_then ⟨_, rfl, _, _, _, _, upds_eq ⟨rfl, rfl, rfl, rfl, rfl, trivial⟩, by omega, St.asRw (S.pk [2, 3, 4] rfl) (by rw [backB, if_pos (by omega), ← bv_append, ← bv_append, List.append_assoc]; rfl)⟩
        · refine s_draw [(true, 0), (true, 1), (true, 3), (false, 2), (false, 4), (true, 5)] (fun w' => True) mixed (by kernel_rfl) (by repeat (first | exact Calm.post _ _ _ | refine Calm.then ?_ _ | refine Calm.inB ?_ _)) ?_
          have S := S.drew
          have hS := trivial
          refine q_val (fun w hS => e_move (v := .slice _ _ _) rfl) rfl hS ?_
          refine q_val (fun w hS => e_move (v := .slice _ _ _) rfl) rfl hS ?_
          refine q_val (fun w hS => e_sl_arr rfl Try.underlying29 sz5) rfl hS ?_
          refine q_does (d_append S 2 rfl rfl Try.underlying33 el5 rfl rfl (S.rdOld (Rd.take_bv (Rd.drop_bv (m := 64 * g + 32) R2 (by omega) hcc) (by omega)) rfl) ((bv_one _)) (by omega) (by unfold maxLen; omega)) rfl ?_
          rintro _ w ⟨k49, c49, rfl, S⟩; have hS := trivial; refine ⟨hS, ?_⟩
          refine q_does (d_append S 2 rfl rfl Try.underlying33 el5 rfl rfl (S.rdBytes 0 rfl rfl (length_lshown _)) ((bv_one _)) (by omega) (by unfold maxLen; omega)) rfl ?_
          rintro _ w ⟨k51, c51, rfl, S⟩; have hS := trivial; refine ⟨hS, ?_⟩
          refine q_val (fun w hS => e_assign (v := .slice _ _ _) rfl) rfl hS ?_
          refine q_nil (x_in ?_)
          exact x_then ⟨_, rfl, _, _, _, _, upds_eq ⟨rfl, rfl, rfl, rfl, rfl, trivial⟩, by omega, St.asRw (S.pk [2, 3, 4] rfl) (by rw [backB, if_neg (by omega), ← bv_append, ← bv_append, List.append_assoc]; rfl)⟩
      · rintro _ w ⟨u, k, c, m, rfl, hm, S⟩
        refine x_then (s_plain ?_)
        refine p_val (e_add64 rfl rfl (by omega)) rfl ?_
        refine p_val (e_move (v := .int _ _) rfl) rfl ?_
        refine p_nil ?_
        refine x_round (g + 1) _ rfl ⟨_, _, _, _, upds_eq ⟨rfl, rfl, rfl, rfl, rfl, trivial⟩, by omega, hm, S⟩ (by omega)
    · refine s_exit (x_then_exit (x_then_exit (x_in_same (x_then (s_seq (s_plain ?_))))))
      refine p_val (e_move (v := .slice _ _ _) rfl) rfl ?_
      refine p_does (d_lit1 S Try.underlying90 sz33 zv33 rfl (vs := [.slice _ _ _]) rfl rfl rfl (by decide)) rfl ?_
      rintro _ w ⟨b7, rfl, S⟩
      refine p_does (d_call Try.func19 nm19 rfl rfl (join_calls _ 13 _ _ [backB (ldig l) g2 64] (Parts.one (S.rdRw 0 rfl rfl) ((show g = 64 by omega) ▸ S.rdRw 1 rfl rfl)) (by simp [joinB, len4, length_backB h4]) (by simp))) rfl ?_
      rintro _ w ⟨rfl, hB⟩
      have S := S.below hB
      refine p_does (d_storeW S 3 rfl rfl (bv_one _) sz29 (by simp [length_join]) rfl rfl (by rfl)) rfl ?_
      intro _ w S
      refine p_val (e_assign (v := .int _ _) rfl) rfl ?_
      refine p_nil (x_then (s_ret ?_))
      exact postC1 Try.results30 S 3 rfl rfl rfl rfl ag29 sz29 (by simp [length_join]) ⟨by rw [if_pos (by omega)]; unfold lback; rfl, S.to_below⟩
end Go.Proofs.Ytdhfiamgmokfbaa
