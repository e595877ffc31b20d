/- Law 13's 'awake'. It proves no statement by itself. -/
import Derived.Test.YtdhfiamgmokfbaaSec2
set_option linter.unusedSimpArgs false
set_option linter.unusedVariables false
set_option maxRecDepth 100000
set_option maxHeartbeats 1000000
namespace Go.Proofs.Ytdhfiamgmokfbaa
open Go Go.RowKit E
theorem put_no (w0 : World) (hb : Nat) (k : Option Nat) (n c : Nat) (L : List (List Nat)) (x h : List Nat) (hx : x.length = 32) (hh : h.length = 32) (hn : n ≤ 1000)
    (S0 : St w0 w0 (exOf [some hb, k]) [some hb, k] [Ex #[.slice (at_ k) n c] 26, Rw 29 32 n c (sv L)]) (hne : ¬ join 31 [x] = h) :
    Ret Try.prog 20 [.pointer (some ⟨hb, 0, none⟩), .agg (bv x).toArray, .agg (bv h).toArray] w0 fun v w' => ∃ k' c', v = .int .i64 16 ∧
      St w0 w' (exOf [some hb, k]) [some hb, k'] [Ex #[.slice (at_ k') n c'] 26, Rw 29 32 n c' (sv L)] :=
  (put_calls w0 hb k n c L x h hx hh hn S0).mono fun v w' ⟨k', c', hv, T⟩ => ⟨k', c', by rw [hv, if_neg hne], by rw [if_neg hne, if_neg hne] at T; exact T⟩
theorem put_yes (w0 : World) (hb : Nat) (k : Option Nat) (n c : Nat) (L : List (List Nat)) (x h : List Nat) (hx : x.length = 32) (hh : h.length = 32) (hn : n ≤ 1000)
    (S0 : St w0 w0 (exOf [some hb, k]) [some hb, k] [Ex #[.slice (at_ k) n c] 26, Rw 29 32 n c (sv L)]) (he : join 31 [x] = h) :
    Ret Try.prog 20 [.pointer (some ⟨hb, 0, none⟩), .agg (bv x).toArray, .agg (bv h).toArray] w0 fun v w' => ∃ k' c', v = .int .i64 0 ∧
      St w0 w' (exOf [some hb, k]) [some hb, k'] [Ex #[.slice (at_ k') (n + 1) c'] 26, Rw 29 32 (n + 1) c' (sv (L ++ [x]))] :=
  (put_calls w0 hb k n c L x h hx hh hn S0).mono fun v w' ⟨k', c', hv, T⟩ => ⟨k', c', by rw [hv, if_pos he], by rw [if_pos he, if_pos he] at T; exact T⟩
theorem awake_ne0 : ((join 31 [secOf zeros 0]).getD 0 0 == (secOf zeros 0).getD 0 0) = false := by kernel_rfl
theorem awake_ne : ¬ join 31 [secOf zeros 0] = secOf zeros 0 := fun e => by
  have h := awake_ne0
  rw [e] at h
  simp at h
theorem awake_calls (w0 : World) : Ret Try.prog 24 [] w0 fun v w' => v = .bool true ∧ Below w0.heap.size w0 w' := by
  refine enter Try.func24 rfl Try.ntmps24 (Nat.le_of_ble_eq_true rfl) ?_
  have S := St.init w0
  refine s_seq (s_plain ?_)
  refine p_val (e_assign (v := .bool _) rfl) rfl ?_
  refine p_nil (x_then (s_seq (s_plain ?_)))
  refine p_val (e_build (cs := zl26) (by kernel_rfl)) rfl ?_
  refine p_does (d_boxA S rfl) rfl ?_
  rintro _ w ⟨b1, rfl, S⟩
  refine p_val (e_assign (v := .pointer _) rfl) rfl ?_
  refine p_nil (x_then (s_seq (s_plain ?_)))
  refine p_val (e_build (cs := zl29) (by kernel_rfl)) rfl ?_
  refine p_does (d_call Try.func82 nm82 rfl rfl (secOf_calls _ zeros 0 length_zeros)) rfl ?_
  rintro _ w ⟨rfl, hB⟩
  have S := S.below hB
  refine p_does (d_allocA S zv29) rfl ?_
  rintro _ w ⟨b2, rfl, S⟩
  refine p_does (d_storeW S 0 rfl rfl (bv_one _) sz29 (by simp [length_secOf]) rfl rfl (by rfl)) rfl ?_
  intro _ w S
  refine p_nil (x_then (s_seq ?_))
  refine s_cut (fun f f' w' => ∃ (j7 j8 j9 j10 j11 j12 j13 j14 j15 j16 j17 j18 j19 j20 j21 j22 j23 j24 : Value) (b : Bool), f' = updo (updo (updo (updo (updo (updo (updo (updo (updo (updo (updo (updo (updo (updo (updo (updo (updo (updo (updo f (some 7) j7) (some 8) j8) (some 9) j9) (some 10) j10) (some 11) j11) (some 12) j12) (some 13) j13) (some 14) j14) (some 15) j15) (some 16) j16) (some 17) j17) (some 18) j18) (some 19) j19) (some 20) j20) (some 21) j21) (some 22) j22) (some 23) j23) (some 24) j24) (some 0) (.bool b) ∧ (b = true ↔ True) ∧ Below w0.heap.size w0 w') ?_ ?_
  · refine s_draw [(true, 0), (true, 1), (true, 2), (false, 3), (true, 4), (true, 5), (true, 6), (true, 7), (true, 8), (false, 9), (false, 10), (true, 11), (true, 12), (true, 13), (true, 14), (false, 15), (true, 16), (true, 17), (true, 18)] (fun w' => St w0 w' [] [some b2] [Ex (bv (secOf zeros 0)).toArray 29]) mixed (by kernel_rfl) (by repeat (first | exact Calm.post _ _ _ | refine Calm.then ?_ _ | refine Calm.inB ?_ _)) ?_
    have S := S.drew
    have hS := S.pk [0] rfl
    refine q_val (fun w hS => e_move (v := .pointer _) rfl) rfl hS ?_
    refine q_val (fun w hS => e_loadEx rfl ag29 sz29 hS 0 rfl rfl (by simp [length_secOf])) rfl hS ?_
    refine q_val (fun w hS => e_loadEx rfl ag29 sz29 hS 0 rfl rfl (by simp [length_secOf])) rfl hS ?_
    have S := S.addNil 29 32
    refine q_does (d_call Try.func20 nm20 rfl rfl (put_no _ b1 none 0 0 [] (secOf zeros 0) (secOf zeros 0) (length_secOf _ _) (length_secOf _ _) (by decide) (S.hr [2, 0] rfl) awake_ne)) rfl ?_
    rintro _ w ⟨k1, c1, rfl, T⟩
    have S := (S.call [2, 0] T rfl).pk [3, 0, 1] rfl; have hS := S.pk [0] rfl; refine ⟨hS, ?_⟩
    refine q_valB (fun w hS => e_eql rfl rfl) rfl hS (fun hg2 => ?_) (fun hg2 => ?_)
    · refine q_val (fun w hS => e_move (v := .bool _) rfl) rfl hS ?_
      refine qg_val rfl rfl rfl rfl rfl (fun w hS => e_move (v := .pointer _) rfl) hS ?_
      refine qg_val rfl rfl rfl rfl rfl (fun w hS => e_loadEx rfl ag29 sz29 hS 0 rfl rfl (by simp [length_secOf])) hS ?_
      refine qg_val rfl rfl rfl rfl rfl (fun w hS => e_build (cs := zl29) (by kernel_rfl)) hS ?_
      refine qg_does rfl rfl rfl rfl rfl (d_call Try.func83 nm83 rfl rfl (point_calls _ zeros 0 length_zeros)) ?_
      rintro _ w ⟨rfl, hB⟩
      have S := S.below hB; have hS := S.pk [0] rfl; refine ⟨hS, ?_⟩
      refine qg_does rfl rfl rfl rfl rfl (d_call Try.func20 nm20 rfl rfl (put_yes _ b1 k1 0 c1 [] (secOf zeros 0) (join 31 [secOf zeros 0]) (length_secOf _ _) (length_join _ _) (by decide) (S.hr [1, 2] rfl) rfl)) ?_
      rintro _ w ⟨k2, c2, rfl, T⟩
      have S := (S.call [1, 2] T rfl).pk [2, 0, 1] rfl; have hS := S.pk [0] rfl; refine ⟨hS, ?_⟩
      refine qg_valB rfl rfl rfl rfl rfl (fun w hS => e_eql rfl rfl) hS (fun hg3 => ?_) (fun hg3 => ?_)
      · refine q_val (fun w hS => e_pick_t rfl rfl) rfl hS ?_
        refine q_val (fun w hS => e_move (v := .bool _) rfl) rfl hS ?_
        refine qg_val rfl rfl rfl rfl rfl (fun w hS => e_move (v := .pointer _) rfl) hS ?_
        refine qg_does rfl rfl rfl rfl rfl (d_call Try.func22 nm22 rfl rfl (len_calls _ b1 _ _ _ _ _ (S.exact_ 1 rfl rfl))) ?_
        rintro _ w ⟨rfl, hB⟩
        have S := S.below hB; have hS := S.pk [0] rfl; refine ⟨hS, ?_⟩
        refine qg_val rfl rfl rfl rfl rfl (fun w hS => e_eql rfl rfl) hS ?_
        refine q_val (fun w hS => e_pick_t rfl rfl) rfl hS ?_
        refine q_val (fun w hS => e_assign (v := .bool _) rfl) rfl hS ?_
        exact q_nil (x_then ⟨_, rfl, _, _, _, _, _, _, _, _, _, _, _, _, _, _, _, _, _, _, _, rfl, by first | (simp only [decide_eq_true_eq, eq_self, true_iff, iff_true, iff_false, Bool.false_eq_true, false_iff, ge_iff_le, gt_iff_lt]; omega) | simp | omega, S.to_below⟩)
      · exact (absurd rfl hg3)
    · exact (absurd rfl hg2)
  · rintro _ w ⟨j7, j8, j9, j10, j11, j12, j13, j14, j15, j16, j17, j18, j19, j20, j21, j22, j23, j24, b901, rfl, hb1, S⟩
    refine x_then (s_ret ?_)
    exact post1 (v := .bool _) Try.results24 rfl ⟨by rw [hb1.2 trivial], S⟩
end Go.Proofs.Ytdhfiamgmokfbaa
