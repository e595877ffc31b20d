/- Secrets' shelves: reading them. It proves no statement by itself. -/
import Derived.Test.YtdhfiamgmokfbaaSec
set_option linter.unusedSimpArgs false
set_option linter.unusedVariables false
set_option maxRecDepth 100000
set_option maxHeartbeats 1000000
namespace Go.Proofs.Ytdhfiamgmokfbaa
open Go Go.RowKit E
def zeros : List Nat := List.replicate 32 0
theorem length_zeros : zeros.length = 32 := by simp [zeros]
theorem len_calls (w0 : World) (hb : Nat) (A : Option Addr) (n c : Nat) (T : TypeId) (fr : Nat × Nat) (hh : w0.heap[hb]? = some (.cells #[.slice A n c] T fr)) :
    Ret Try.prog 22 [.pointer (some ⟨hb, 0, none⟩)] w0 fun v w' => v = .int .i64 (n : Int) ∧ Below w0.heap.size w0 w' := by
  refine enter Try.func22 rfl Try.ntmps22 (Nat.le_of_ble_eq_true rfl) ?_
  have S := St.init w0
  refine s_seq (s_plain ?_)
  refine p_val (e_assign (v := .int _ _) rfl) rfl ?_
  refine p_nil (x_then (s_seq (s_seq (s_plain ?_))))
  refine p_val (e_move (v := .pointer _) rfl) rfl ?_
  refine p_val (e_eqlP rfl rfl Try.underlying23) rfl ?_
  refine p_nil (x_then ?_)
  refine s_condb rfl (fun hc1 => ?_) (fun hc1 => ?_)
  · refine s_seq (s_plain ?_)
    refine p_val (e_assign (v := .int _ _) rfl) rfl ?_
    refine p_nil (x_then (s_ret (x_then_ret ?_)))
    exact post1 (v := .int _ _) Try.results22 rfl (by simp at hc1)
  · refine s_skip (x_then (s_seq (s_plain ?_)))
    refine p_val (e_move (v := .pointer _) rfl) rfl ?_
    refine p_val (e_nil rfl rfl) rfl ?_
    refine p_val (e_field rfl Try.underlying26 rfl sz24 (by decide)) rfl ?_
    refine p_val (e_load rfl ag24 ((S.oldCell hh (by simp) 0).trans rfl)) rfl ?_
    refine p_val (e_len rfl Try.underlying24) rfl ?_
    refine p_val (e_assign (v := .int _ _) rfl) rfl ?_
    refine p_nil (x_then (s_ret ?_))
    exact post1 (v := .int _ _) Try.results22 rfl ⟨rfl, S.to_below⟩
theorem get_calls (w0 : World) (hb : Nat) (A : Option Addr) (c : Nat) (L : List (List Nat)) (s : Int) (T : TypeId) (fr : Nat × Nat) (hL : All32 L) (R : Rd w0 32 A L.length (sv L)) (hh : w0.heap[hb]? = some (.cells #[.slice A L.length c] T fr)) :
    Ret Try.prog 23 [.pointer (some ⟨hb, 0, none⟩), .int .i64 s] w0 fun v w' => v = .tuple #[.agg (bv (if 0 ≤ s ∧ s < L.length then L.getD s.toNat [] else zeros)).toArray, .bool (decide (0 ≤ s ∧ s < L.length))] ∧ Below w0.heap.size w0 w' := by
  refine enter Try.func23 rfl Try.ntmps23 (Nat.le_of_ble_eq_true rfl) ?_
  have S := St.init w0
  refine s_seq (s_plain ?_)
  refine p_does (d_allocA S zv29) rfl ?_
  rintro _ w ⟨b1, rfl, S⟩
  refine p_val (e_assign (v := .bool _) rfl) rfl ?_
  refine p_nil (x_then (s_seq (s_seq ?_)))
  refine s_cut (fun f f' w' => ∃ (j6 j7 j8 j9 j10 j11 j12 : Value) (b : Bool), f' = updo (updo (updo (updo (updo (updo (updo (updo f (some 6) j6) (some 7) j7) (some 8) j8) (some 9) j9) (some 10) j10) (some 11) j11) (some 12) j12) (some 13) (.bool b) ∧ (b = true ↔ s < 0 ∨ (L.length : Int) ≤ s) ∧ St w0 w' [] [some b1] [Ex zl29.toArray 29]) ?_ ?_
  · refine s_plain ?_
    refine p_val (e_move (v := .int _ _) rfl) rfl ?_
    refine p_valB (e_lss rfl rfl) rfl (fun hg2 => ?_) (fun hg2 => ?_)
    · refine p_val (e_move (v := .bool _) rfl) rfl ?_
      refine p_no rfl rfl rfl rfl rfl ?_
      refine p_no rfl rfl rfl rfl rfl ?_
      refine p_no rfl rfl rfl rfl rfl ?_
      refine p_no rfl rfl rfl rfl rfl ?_
      refine p_val (e_pick_t rfl rfl) rfl ?_
      exact p_nil (x_then ⟨_, rfl, _, _, _, _, _, _, _, _, rfl, by simp only [decide_eq_true_eq, eq_self, true_iff, iff_true, iff_false, Bool.false_eq_true, false_iff, ge_iff_le, gt_iff_lt]; omega, S⟩)
    · refine p_val (e_move (v := .bool _) rfl) rfl ?_
      refine pg_val rfl rfl rfl rfl rfl (e_move (v := .int _ _) rfl) ?_
      refine pg_val rfl rfl rfl rfl rfl (e_move (v := .pointer _) rfl) ?_
      refine pg_does rfl rfl rfl rfl rfl (d_call Try.func22 nm22 rfl rfl (len_calls _ hb _ _ _ _ _ (S.oldBlock hh (by simp)))) ?_
      rintro _ w ⟨rfl, hB⟩
      have S := S.below hB
      refine pg_val rfl rfl rfl rfl rfl (e_geq rfl rfl) ?_
      refine p_val (e_pick_f rfl rfl) rfl ?_
      exact p_nil (x_then ⟨_, rfl, _, _, _, _, _, _, _, _, rfl, by simp only [decide_eq_true_eq, eq_self, true_iff, iff_true, iff_false, Bool.false_eq_true, false_iff, ge_iff_le, gt_iff_lt]; omega, S⟩)
  · rintro _ w ⟨j6, j7, j8, j9, j10, j11, j12, b901, rfl, hb1, S⟩
    refine x_then ?_
    refine s_condb rfl (fun hc1 => ?_) (fun hc1 => ?_)
    · refine s_seq (s_plain ?_)
      refine p_val (e_build (cs := zl29) (by kernel_rfl)) rfl ?_
      refine p_does (d_storeW S 0 rfl rfl (bv_one zeros) sz29 (by rfl) rfl rfl (by rfl)) rfl ?_
      intro _ w S
      refine p_val (e_assign (v := .bool _) rfl) rfl ?_
      refine p_nil (x_then (s_ret (x_then_ret ?_)))
      exact postC1 Try.results23 S 0 rfl rfl rfl rfl ag29 sz29 (by rfl) (by have h0 := hb1.1 hc1; rw [if_neg (by omega), decide_eq_false (by omega)]; exact ⟨rfl, S.to_below⟩)
    · refine s_skip (x_then (s_seq (s_plain ?_)))
      refine p_val (e_move (v := .pointer _) rfl) rfl ?_
      refine p_val (e_nil rfl rfl) rfl ?_
      refine p_val (e_field rfl Try.underlying26 rfl sz24 (by decide)) rfl ?_
      refine p_val (e_load rfl ag24 ((S.oldCell hh (by simp) 0).trans rfl)) rfl ?_
      refine p_val (e_move (v := .int _ _) rfl) rfl ?_
      have h0 : ¬ (s < 0 ∨ (L.length : Int) ≤ s) := mt hb1.2 (by simp [hc1])
      obtain ⟨ad, rfl⟩ := R.some_ (by rw [sv_length hL]; omega)
      refine p_val (e_ix_sl rfl rfl Try.underlying24 sz29 (by omega)) rfl ?_
      refine p_val (e_loadN (cs := bv (L.getD s.toNat [])) rfl ag29 sz29 (by rw [bv_length]; exact hL.getD (by omega)) ((S.rdOld R rfl).sum hL ⟨by omega, by omega⟩)) rfl ?_
      refine p_does (d_storeW S 0 rfl rfl (bv_one _) sz29 (by rw [bv_length]; exact hL.getD (by omega)) rfl rfl (by rfl)) rfl ?_
      intro _ w S
      refine p_val (e_assign (v := .bool _) rfl) rfl ?_
      refine p_nil (x_then (s_ret ?_))
      exact postC1 Try.results23 S 0 rfl rfl rfl rfl ag29 sz29 (by rw [List.size_toArray, bv_length]; exact hL.getD (by omega)) (by rw [if_pos (by omega), decide_eq_true (by omega)]; exact ⟨rfl, S.to_below⟩)
theorem all_calls (w0 : World) (hb : Nat) (A : Option Addr) (n c : Nat) (L : List (List Nat)) (T : TypeId) (fr : Nat × Nat) (hn : n ≤ 1000) (R : Rd w0 32 A n (sv L)) (hh : w0.heap[hb]? = some (.cells #[.slice A n c] T fr)) :
    Ret Try.prog 21 [.pointer (some ⟨hb, 0, none⟩)] w0 fun v w' => ∃ k c', v = .slice (at_ k) n c' ∧ St w0 w' [] [k] [Rw 29 32 n c' (sv L)] := by
  refine enter Try.func21 rfl Try.ntmps21 (Nat.le_of_ble_eq_true rfl) ?_
  have S := St.init w0
  refine s_seq (s_plain ?_)
  refine p_val (e_assign (v := .slice _ _ _) rfl) rfl ?_
  refine p_nil (x_then (s_seq (s_seq (s_plain ?_))))
  refine p_val (e_move (v := .pointer _) rfl) rfl ?_
  refine p_val (e_eqlP rfl rfl Try.underlying23) rfl ?_
  refine p_nil (x_then ?_)
  refine s_condb rfl (fun hc1 => ?_) (fun hc1 => ?_)
  · refine s_seq (s_plain ?_)
    refine p_val (e_assign (v := .slice _ _ _) rfl) rfl ?_
    refine p_nil (x_then (s_ret (x_then_ret ?_)))
    exact post1 (v := .slice _ _ _) Try.results21 rfl (by simp at hc1)
  · refine s_skip (x_then (s_seq (s_plain ?_)))
    refine p_val (e_move (v := .pointer _) rfl) rfl ?_
    refine p_val (e_nil rfl rfl) rfl ?_
    refine p_val (e_field rfl Try.underlying26 rfl sz24 (by decide)) rfl ?_
    refine p_val (e_load rfl ag24 ((S.oldCell hh (by simp) 0).trans rfl)) rfl ?_
    have S := S.addNil 29 32
    refine p_does (d_append S 0 rfl rfl Try.underlying24 el29 rfl rfl (S.rdOld R rfl) (sv_one _) (by omega) (by unfold maxLen; omega)) rfl ?_
    rintro _ w ⟨k9, c9, rfl, S⟩
    refine p_val (e_assign (v := .slice _ _ _) rfl) rfl ?_
    refine p_nil (x_then (s_ret ?_))
    exact post1 (v := .slice _ _ _) Try.results21 rfl ⟨k9, c9, by rw [Nat.zero_add], S.asRwAt 0 rfl (Nat.zero_add n) (List.nil_append _)⟩
theorem clone_calls (w0 : World) (hb : Nat) (A : Option Addr) (n c : Nat) (L : List (List Nat)) (T : TypeId) (fr : Nat × Nat) (hn : n ≤ 1000) (R : Rd w0 32 A n (sv L)) (hh : w0.heap[hb]? = some (.cells #[.slice A n c] T fr)) :
    Ret Try.prog 18 [.pointer (some ⟨hb, 0, none⟩)] w0 fun v w' => (∃ A' c', v = .agg #[.slice A' n c']) ∧ Below w0.heap.size w0 w' := by
  refine enter Try.func18 rfl Try.ntmps18 (Nat.le_of_ble_eq_true rfl) ?_
  have S := St.init w0
  refine s_seq (s_plain ?_)
  refine p_does (d_allocA S zv26) rfl ?_
  rintro _ w ⟨b1, rfl, S⟩
  refine p_nil (x_then (s_seq (s_plain ?_)))
  refine p_val (e_move (v := .pointer _) rfl) rfl ?_
  refine p_does (d_call Try.func21 nm21 rfl rfl (all_calls _ hb A n c L _ _ hn (S.rdOld R rfl) (S.oldBlock hh (by simp)))) rfl ?_
  rintro _ w ⟨k', c', rfl, T⟩
  have S := S.merge T rfl
  refine p_val (e_build (cs := [.slice (at_ k') n c']) (by kernel_rfl)) rfl ?_
  refine p_does (d_storeW S 1 rfl rfl (by simp [Value.oneCell']) sz26 (by rfl) rfl rfl (by rfl)) rfl ?_
  intro _ w S
  refine p_nil (x_then (s_ret ?_))
  exact postC Try.results18 S 1 rfl rfl rfl ag26 sz26 (by rfl) ⟨⟨_, _, rfl⟩, S.to_below⟩
end Go.Proofs.Ytdhfiamgmokfbaa
