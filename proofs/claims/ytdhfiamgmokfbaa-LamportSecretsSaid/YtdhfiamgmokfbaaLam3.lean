/- Lamport's public keys. It proves no statement by itself. -/
import Derived.Test.YtdhfiamgmokfbaaLam2
set_option linter.unusedSimpArgs false
set_option linter.unusedVariables false
set_option maxRecDepth 100000
set_option maxHeartbeats 1000000
namespace Go.Proofs.Ytdhfiamgmokfbaa
open Go Go.RowKit E
def pubI (s : List Nat) (i : Nat) : Nat → List Nat
  | 0 => []
  | b + 1 => pubI s i b ++ lshown (lsec s (i : Int) ((b : Int) % 2))
def pubB (s : List Nat) : Nat → List Nat
  | 0 => []
  | i + 1 => pubB s i ++ pubI s i 2
@[irreducible] def lpub (s : List Nat) : List Nat := join 13 [pubB s 64]
theorem length_pubI (s : List Nat) (i : Nat) : ∀ b, (pubI s i b).length = 32 * b
  | 0 => rfl
  | b + 1 => by rw [pubI, List.length_append, length_pubI s i b, length_lshown]; omega
theorem length_pubB (s : List Nat) : ∀ i, (pubB s i).length = 64 * i
  | 0 => rfl
  | i + 1 => by rw [pubB, List.length_append, length_pubB s i, length_pubI]; omega
theorem length_lpub (s : List Nat) : (lpub s).length = 32 := by unfold lpub; exact length_join _ _
theorem lpub_calls (w0 : World) (s : List Nat) (hs : s.length = 32) :
    Ret Try.prog 31 [.agg (bv s).toArray] w0 fun v w' => v = .agg (bv (lpub s)).toArray ∧ Below w0.heap.size w0 w' := by
  refine enter Try.func31 rfl Try.ntmps31 (Nat.le_of_ble_eq_true rfl) ?_
  have S := St.init w0
  refine s_seq (s_plain ?_)
  refine p_does (d_boxA S rfl) rfl ?_
  rintro _ w ⟨b1, rfl, S⟩
  refine p_does (d_allocA S zv29) rfl ?_
  rintro _ w ⟨b2, rfl, S⟩
  refine p_nil (x_then (s_seq (s_plain ?_)))
  refine p_does (d_make0 S Try.underlying33 el5 4096 rfl rfl (by decide) (by decide)) rfl ?_
  rintro _ w ⟨b3, rfl, S⟩
  refine p_val (e_assign (v := .slice _ _ _) rfl) rfl ?_
  refine p_nil (x_then (s_seq (s_seq (s_plain ?_))))
  refine p_val (e_move (v := .int _ _) rfl) rfl ?_
  refine p_nil (x_then (s_block ?_))
  refine s_loop (α := Nat) (fun g f' w' => ∃ u k c m, f' = upds u [(1, .pointer (some ⟨b1, 0, none⟩)), (2, .pointer (some ⟨b2, 0, none⟩)), (3, .slice (at_ k) m c), (8, .int .i64 (g : Int))] ∧ g ≤ 64 ∧ m = 64 * g ∧ St w0 w' [] [k, some b2, some b1] [Rw 5 1 m c (bv (pubB s g)), Ex zl29.toArray 29, Ex (bv s).toArray 29]) (fun g => 64 - g) (0) (⟨_, _, _, _, upds_eq ⟨rfl, rfl, rfl, rfl, trivial⟩, by omega, rfl, S⟩) ?_
  rintro g f w ⟨u, k, c, m, rfl, hg, hm, S⟩
  refine s_seq (s_plain ?_)
  refine p_val (e_lss rfl rfl) rfl ?_
  refine p_nil (x_then (s_seq ?_))
  refine s_cond rfl (fun hc1 => ?_) (fun hc1 => ?_)
  · refine s_skip (x_then (s_seq (s_block (s_seq (s_plain ?_)))))
    refine p_val (e_move (v := .int _ _) rfl) rfl ?_
    refine p_val (e_assign (v := .int _ _) rfl) rfl ?_
    refine p_nil (x_then (s_seq (s_plain ?_)))
    refine p_val (e_move (v := .int _ _) rfl) rfl ?_
    refine p_nil (x_then (s_block ?_))
    refine s_loop (α := Nat) (fun h f' w' => ∃ u k c m, f' = upds u [(1, .pointer (some ⟨b1, 0, none⟩)), (2, .pointer (some ⟨b2, 0, none⟩)), (3, .slice (at_ k) m c), (4, .int .i64 (g : Int)), (8, .int .i64 (g : Int)), (11, .int .i64 (h : Int))] ∧ h ≤ 2 ∧ m = 64 * g + 32 * h ∧ St w0 w' [] [k, some b2, some b1] [Rw 5 1 m c (bv (pubB s g ++ pubI s g h)), Ex zl29.toArray 29, Ex (bv s).toArray 29]) (fun h => 2 - h) (0) (⟨_, _, _, _, upds_eq ⟨rfl, rfl, rfl, rfl, rfl, rfl, trivial⟩, by omega, by omega, S.asRw (by simp [pubI])⟩) ?_
    rintro h f w ⟨u, k, c, m, rfl, hh, hm, S⟩
    refine s_seq (s_plain ?_)
    refine p_val (e_lss rfl rfl) rfl ?_
    refine p_nil (x_then (s_seq ?_))
    refine s_cond rfl (fun hc2 => ?_) (fun hc2 => ?_)
    · refine s_skip (x_then (s_seq (s_block (s_seq (s_plain ?_)))))
      refine p_val (e_move (v := .int _ _) rfl) rfl ?_
      refine p_val (e_assign (v := .int _ _) rfl) rfl ?_
      refine p_nil (x_then (s_seq (s_plain ?_)))
      refine p_val (e_loadEx rfl ag29 sz29 S 2 rfl rfl (by simp [hs])) rfl ?_
      refine p_val (e_move (v := .int _ _) rfl) rfl ?_
      refine p_val (e_move (v := .int _ _) rfl) rfl ?_
      refine p_does (d_call Try.func35 nm35 rfl rfl (lsec_calls _ s (g : Int) (h : Int) hs)) rfl ?_
      rintro _ w ⟨rfl, hB⟩
      have S := S.below hB
      refine p_does (d_call Try.func36 nm36 rfl rfl (lshown_calls _ _ (length_lsec _ _ _))) rfl ?_
      rintro _ w ⟨rfl, hB⟩
      have S := S.below hB
      refine p_does (d_allocA S zv29) rfl ?_
      rintro _ w ⟨b10, rfl, S⟩
      refine p_does (d_storeW S 0 rfl rfl (bv_one _) sz29 (by simp [length_lshown]) rfl rfl (by rfl)) rfl ?_
      intro _ w S
      refine p_nil (x_then (s_plain ?_))
      refine p_val (e_move (v := .slice _ _ _) rfl) rfl ?_
      refine p_val (e_sl_arr rfl Try.underlying29 sz5) rfl ?_
      refine p_does (d_append S 1 rfl rfl Try.underlying33 el5 rfl rfl (S.rdBytes 0 rfl rfl (length_lshown _)) ((bv_one _)) (by omega) (by unfold maxLen; omega)) rfl ?_
      rintro _ w ⟨k21, c21, rfl, S⟩
      refine p_val (e_assign (v := .slice _ _ _) rfl) rfl ?_
      refine p_nil (x_in (x_then (s_plain ?_)))
      refine p_val (e_add64 rfl rfl (by omega)) rfl ?_
      refine p_val (e_move (v := .int _ _) rfl) rfl ?_
      refine p_nil ?_
      refine x_round (h + 1) _ rfl ⟨_, _, _, _, upds_eq ⟨rfl, rfl, rfl, rfl, rfl, rfl, trivial⟩, by omega, by omega, S.tail.asRw (by rw [← bv_append, List.append_assoc]; rfl)⟩ (by omega)
    · refine s_exit (x_then_exit (x_then_exit (x_in_same (x_in (x_then (s_plain ?_))))))
      refine p_val (e_add64 rfl rfl (by omega)) rfl ?_
      refine p_val (e_move (v := .int _ _) rfl) rfl ?_
      refine p_nil ?_
      refine x_round (g + 1) _ rfl ⟨_, _, _, _, upds_eq ⟨rfl, rfl, rfl, rfl, trivial⟩, by omega, by omega, S.asRw (by rw [show h = 2 by omega]; rfl)⟩ (by omega)
  · refine s_exit (x_then_exit (x_then_exit (x_in_same (x_then (s_seq (s_plain ?_))))))
    refine p_val (e_move (v := .slice _ _ _) rfl) rfl ?_
    refine p_does (d_lit1 S Try.underlying90 sz33 zv33 rfl (vs := [.slice _ _ _]) rfl rfl rfl (by decide)) rfl ?_
    rintro _ w ⟨b7, rfl, S⟩
    refine p_does (d_call Try.func19 nm19 rfl rfl (join_calls _ 13 _ _ [pubB s 64] (Parts.one (S.rdRw 0 rfl rfl) ((show g = 64 by omega) ▸ S.rdRw 1 rfl rfl)) (by simp [joinB, len4, length_pubB]) (by simp))) rfl ?_
    rintro _ w ⟨rfl, hB⟩
    have S := S.below hB
    refine p_does (d_storeW S 2 rfl rfl (bv_one _) sz29 (by simp [length_join]) rfl rfl (by rfl)) rfl ?_
    intro _ w S
    refine p_nil (x_then (s_ret ?_))
    exact postC Try.results31 S 2 rfl rfl rfl ag29 sz29 (by simp [length_join]) ⟨by unfold lpub; rfl, S.to_below⟩
end Go.Proofs.Ytdhfiamgmokfbaa
