/- Law 4's own helpers. It proves no statement by itself. -/
import Derived.Test.YtdhfiamgmokfbaaLam1
set_option linter.unusedSimpArgs false
set_option linter.unusedVariables false
set_option maxRecDepth 100000
set_option maxHeartbeats 1000000
namespace Go.Proofs.Ytdhfiamgmokfbaa
open Go Go.RowKit E
theorem outB_lt (h : List Nat) : ∀ g, ∀ x ∈ outB h g, x < 256
  | 0, x, hx => by
    have := (List.mem_replicate.1 hx).2
    omega
  | g + 1, x, hx => by
    unfold outB at hx
    rcases List.mem_or_eq_of_mem_set hx with hx | rfl
    · rcases List.mem_or_eq_of_mem_set hx with hx | rfl
      · rcases List.mem_or_eq_of_mem_set hx with hx | rfl
        · rcases List.mem_or_eq_of_mem_set hx with hx | rfl
          · exact outB_lt h g x hx
          · exact Nat.mod_lt _ (by decide)
        · exact Nat.mod_lt _ (by decide)
      · exact Nat.mod_lt _ (by decide)
    · exact Nat.mod_lt _ (by decide)
theorem join_lt (tag : Nat) (ls : List (List Nat)) : ∀ x ∈ join tag ls, x < 256 := by
  unfold join sumOf
  exact outB_lt _ _
theorem getD_lt {l : List Nat} (h : ∀ x ∈ l, x < 256) (i : Nat) : l.getD i 0 < 256 := by
  rw [List.getD_eq_getElem?_getD]
  cases hi : l[i]? with
  | none => decide
  | some x => exact h x (List.mem_of_getElem? hi)
theorem cut_calls (w0 : World) (A : Option Addr) (n c : Nat) (hc : n ≤ c) :
    Ret Try.prog 25 [.slice A n c] w0 fun v w' => v = .slice A (min n 200) c ∧ Below w0.heap.size w0 w' := by
  refine enter Try.func25 rfl Try.ntmps25 (Nat.le_of_ble_eq_true rfl) ?_
  have S := St.init w0
  refine s_seq (s_plain ?_)
  refine p_val (e_assign (v := .slice _ _ _) rfl) rfl ?_
  refine p_nil (x_then (s_seq (s_seq (s_plain ?_))))
  refine p_val (e_move (v := .slice _ _ _) rfl) rfl ?_
  refine p_val (e_len rfl Try.underlying33) rfl ?_
  refine p_val (e_gtr rfl rfl) rfl ?_
  refine p_nil (x_then ?_)
  refine s_cond rfl (fun hc1 => ?_) (fun hc1 => ?_)
  · refine s_seq (s_plain ?_)
    refine p_val (e_move (v := .slice _ _ _) rfl) rfl ?_
    refine p_val (e_sl_h (200) rfl rfl (by omega) (by omega) Try.underlying33 sz5) rfl ?_
    refine p_val (e_assign (v := .slice _ _ _) rfl) rfl ?_
    refine p_nil (x_then (s_ret (x_then_ret ?_)))
    exact post1 (v := .slice _ _ _) Try.results25 rfl ⟨by rw [Nat.min_eq_right (by omega)], S.to_below⟩
  · refine s_skip (x_then (s_seq (s_plain ?_)))
    refine p_val (e_move (v := .slice _ _ _) rfl) rfl ?_
    refine p_val (e_assign (v := .slice _ _ _) rfl) rfl ?_
    refine p_nil (x_then (s_ret ?_))
    exact post1 (v := .slice _ _ _) Try.results25 rfl ⟨by rw [Nat.min_eq_left (by omega)], S.to_below⟩
theorem l4bit_calls (w0 : World) (A : Option Addr) (n c : Nat) (l : List Nat) (i : Nat) (R : Rd w0 1 A n (bv l)) (hn : n ≤ 1099511620000) (hi : i < 256) :
    Ret Try.prog 26 [.slice A n c, .int .i64 (i : Int)] w0 fun v w' => v = .int .i64 ((lbit (ldig l) i : Nat) : Int) ∧ Below w0.heap.size w0 w' := by
  have hl : l.length = n := by simpa using R.1
  have hd : (ldig l).length = 32 := length_ldig l
  have hd' : (join 14 [l]).length = 32 := length_ldig l
  have hlt : (join 14 [l]).getD (i / 8) 0 < 256 := getD_lt (join_lt _ _) _
  refine enter Try.func26 rfl Try.ntmps26 (Nat.le_of_ble_eq_true rfl) ?_
  have S := St.init w0
  refine s_seq (s_plain ?_)
  refine p_val (e_assign (v := .int _ _) rfl) rfl ?_
  refine p_nil (x_then (s_seq (s_plain ?_)))
  refine p_val (e_move (v := .slice _ _ _) rfl) rfl ?_
  refine p_does (d_lit1 S Try.underlying90 sz33 zv33 rfl (vs := [.slice _ _ _]) rfl rfl rfl (by decide)) rfl ?_
  rintro _ w ⟨b1, rfl, S⟩
  refine p_does (d_call Try.func19 nm19 rfl rfl (join_calls _ 14 _ _ [l] (Parts.one (S.rdRw 0 rfl rfl) (S.rdOld R rfl)) (by simp [joinB, len4]; omega) (by simp))) rfl ?_
  rintro _ w ⟨rfl, hB⟩
  have S := S.below hB
  refine p_does (d_allocA S zv29) rfl ?_
  rintro _ w ⟨b2, rfl, S⟩
  refine p_does (d_storeW S 0 rfl rfl (bv_one _) sz29 (by simp [length_join]) rfl rfl (by rfl)) rfl ?_
  intro _ w S
  refine p_nil (x_then (s_seq (s_plain ?_)))
  refine p_val (e_move (v := .int _ _) rfl) rfl ?_
  refine p_val (e_quo64 rfl rfl (by omega)) rfl ?_
  refine p_val (e_ix_arr rfl rfl Try.underlying29 sz5 (by omega)) rfl ?_
  refine p_val (e_load rfl ag5 ((S.cell 0 rfl rfl _).trans (by rw [show (((i : Int) / 8).toNat * 1) = i / 8 by omega]; exact bv_getA (by omega)))) rfl ?_
  refine p_val (e_conv_in rfl Try.underlying5 (by simp) Try.underlying3 (IntWalk.i64_in _ (by omega))) rfl ?_
  refine p_val (e_assign (v := .int _ _) rfl) rfl ?_
  refine p_nil (x_then (s_seq (s_seq (s_plain ?_))))
  refine p_val (e_move (v := .int _ _) rfl) rfl ?_
  refine p_val (e_rem64 rfl rfl (by omega)) rfl ?_
  refine p_val (e_assign (v := .int _ _) rfl) rfl ?_
  refine p_nil (x_then (s_block ?_))
  refine s_loop (α := Nat) (fun g f' w' => ∃ u m, f' = upds u [(6, .int .i64 ((m : Nat) : Int)), (7, .int .i64 ((i % 8 + g : Nat) : Int))] ∧ m = shr32 ((ldig l).getD (i / 8) 0) g ∧ m < 256 ∧ i % 8 + g ≤ 7 ∧ St w0 w' [] [] []) (fun g => 7 - g) (0) (⟨_, (join 14 [l]).getD (i / 8) 0, upds_eq ⟨rfl, congrArg (Value.int .i64) (by omega), trivial⟩, rfl, hlt, by omega, S.none_⟩) ?_
  rintro g f w ⟨u, m, rfl, hm, hm2, hg, S⟩
  refine s_seq (s_seq (s_plain ?_))
  refine p_val (e_move (v := .int _ _) rfl) rfl ?_
  refine p_val (e_lss rfl rfl) rfl ?_
  refine p_nil (x_then ?_)
  refine s_cond rfl (fun hc1 => ?_) (fun hc1 => ?_)
  · refine s_skip (x_then (s_seq (s_block (s_plain ?_))))
    refine p_val (e_move (v := .int _ _) rfl) rfl ?_
    refine p_val (e_quo64 rfl rfl (by omega)) rfl ?_
    refine p_val (e_assign (v := .int _ _) rfl) rfl ?_
    refine p_nil (x_in (x_then (s_plain ?_)))
    refine p_val (e_move (v := .int _ _) rfl) rfl ?_
    refine p_val (e_add64 rfl rfl (by omega)) rfl ?_
    refine p_val (e_assign (v := .int _ _) rfl) rfl ?_
    refine p_nil ?_
    refine x_round (g + 1) _ rfl ⟨_, m / 2, upds_eq ⟨congrArg (Value.int .i64) (by omega), congrArg (Value.int .i64) (by omega), trivial⟩, by rw [hm]; unfold shr32; rw [Nat.shiftRight_succ], by omega, by omega, S⟩ (by omega)
  · refine s_exit (x_then_exit (x_then_exit (x_in_same (x_then (s_seq (s_plain ?_))))))
    refine p_val (e_move (v := .int _ _) rfl) rfl ?_
    refine p_val (e_rem64 rfl rfl (by omega)) rfl ?_
    refine p_val (e_assign (v := .int _ _) rfl) rfl ?_
    refine p_nil (x_then (s_ret ?_))
    exact post1 (v := .int _ _) Try.results26 rfl ⟨congrArg (Value.int .i64) (by rw [lbit, show 7 - i % 8 = g by omega, show (ldig l).getD (i / 8) 0 >>> g = m from hm.symm]; omega), S.to_below⟩
end Go.Proofs.Ytdhfiamgmokfbaa
