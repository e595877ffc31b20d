/- Own texts, one behind the other: walks and laws that the statement needs. They prove no statement by themselves. -/
import Derived.Test.YtdhfiamgmokfbaaZP12c2
import Derived.Test.YtdhfiamgmokfbaaZP12c1
import Derived.Lib.SlBytesConst
import Derived.KernelRfl
/- Lamport's keys: secrets, what is shown, digests, bits. It proves no statement by itself. -/
set_option linter.unusedSimpArgs false
set_option linter.unusedVariables false
set_option maxRecDepth 100000
set_option maxHeartbeats 1000000
namespace Go.Proofs.Ytdhfiamgmokfbaa
open Go Go.RowKit E
def lsec (s : List Nat) (i b : Int) : List Nat := join 11 [s, [(i % 256).toNat, (b % 256).toNat]]
def lshown (s : List Nat) : List Nat := join 12 [s]
def ldig (l : List Nat) : List Nat := join 14 [l]
def lbit (s : List Nat) (i : Nat) : Nat := (s.getD (i / 8) 0 >>> (7 - i % 8)) % 2
theorem length_lsec (s : List Nat) (i b : Int) : (lsec s i b).length = 32 := length_join _ _
theorem length_lshown (s : List Nat) : (lshown s).length = 32 := length_join _ _
theorem length_ldig (s : List Nat) : (ldig s).length = 32 := length_join _ _
theorem lbit_lt (s : List Nat) (i : Nat) : lbit s i < 2 := Nat.mod_lt _ (by decide)
theorem lsec_calls (w0 : World) (s : List Nat) (i b : Int) (hs : s.length = 32) :
    Ret Try.prog 35 [.agg (bv s).toArray, .int .i64 i, .int .i64 b] w0 fun v w' => v = .agg (bv (lsec s i (b % 2))).toArray ∧ Below w0.heap.size w0 w' := by
  refine enter Try.func35 rfl Try.ntmps35 (Nat.le_of_ble_eq_true rfl) ?_
  have S := St.init w0
  refine s_seq (s_plain ?_)
  refine p_does (d_boxA S rfl) rfl ?_
  rintro _ w ⟨b1, rfl, S⟩
  refine p_does (d_allocA S zv29) rfl ?_
  rintro _ w ⟨b2, rfl, S⟩
  refine p_nil (x_then (s_seq (s_plain ?_)))
  refine p_val (e_sl_arr rfl Try.underlying29 sz5) rfl ?_
  refine p_val (e_move (v := .int _ _) rfl) rfl ?_
  refine p_val (e_conv8i rfl Try.underlying3 (by simp) Try.underlying5) rfl ?_
  refine p_val (e_move (v := .int _ _) rfl) rfl ?_
  refine p_val (e_and1 rfl rfl) rfl ?_
  refine p_val (e_conv8i rfl Try.underlying3 (by simp) Try.underlying5) rfl ?_
  refine p_does (d_litB S Try.underlying33 sz5 zv5 rfl (l := [_, _]) rfl rfl (by decide)) rfl ?_
  rintro _ w ⟨b3, rfl, S⟩
  refine p_does (d_lit1 S Try.underlying90 sz33 zv33 rfl (vs := [.slice _ _ _, .slice _ _ _]) rfl rfl rfl (by decide)) rfl ?_
  rintro _ w ⟨b4, rfl, S⟩
  refine p_does (d_call Try.func19 nm19 rfl rfl (join_calls _ 11 _ _ [s, [(i % 256).toNat, (b % 2 % 256).toNat]] (Parts.two (S.rdRw 0 rfl rfl) (S.rdBytes 3 rfl rfl hs) (S.rdRw 1 rfl rfl)) (by simp [joinB, len4, hs]) (by simp))) rfl ?_
  rintro _ w ⟨rfl, hB⟩
  have S := S.below hB
  refine p_does (d_storeW S 2 rfl rfl (bv_one _) sz29 (by simp [length_join]) rfl rfl (by rfl)) rfl ?_
  intro _ w S
  refine p_nil (x_then (s_ret ?_))
  exact postC Try.results35 S 2 rfl rfl rfl ag29 sz29 (by simp [length_join]) ⟨rfl, S.to_below⟩
theorem lshown_calls (w0 : World) (s : List Nat) (hs : s.length = 32) :
    Ret Try.prog 36 [.agg (bv s).toArray] w0 fun v w' => v = .agg (bv (lshown s)).toArray ∧ Below w0.heap.size w0 w' := by
  refine enter Try.func36 rfl Try.ntmps36 (Nat.le_of_ble_eq_true rfl) ?_
  have S := St.init w0
  refine s_seq (s_plain ?_)
  refine p_does (d_boxA S rfl) rfl ?_
  rintro _ w ⟨b1, rfl, S⟩
  refine p_does (d_allocA S zv29) rfl ?_
  rintro _ w ⟨b2, rfl, S⟩
  refine p_nil (x_then (s_seq (s_plain ?_)))
  refine p_val (e_sl_arr rfl Try.underlying29 sz5) rfl ?_
  refine p_does (d_lit1 S Try.underlying90 sz33 zv33 rfl (vs := [.slice _ _ _]) rfl rfl rfl (by decide)) rfl ?_
  rintro _ w ⟨b3, rfl, S⟩
  refine p_does (d_call Try.func19 nm19 rfl rfl (join_calls _ 12 _ _ [s] (Parts.one (S.rdRw 0 rfl rfl) (S.rdBytes 2 rfl rfl hs)) (by simp [joinB, len4, hs]) (by simp))) rfl ?_
  rintro _ w ⟨rfl, hB⟩
  have S := S.below hB
  refine p_does (d_storeW S 1 rfl rfl (bv_one _) sz29 (by simp [length_join]) rfl rfl (by rfl)) rfl ?_
  intro _ w S
  refine p_nil (x_then (s_ret ?_))
  exact postC Try.results36 S 1 rfl rfl rfl ag29 sz29 (by simp [length_join]) ⟨rfl, S.to_below⟩
theorem ldig_calls (w0 : World) (A : Option Addr) (n c0 : Nat) (l : List Nat) (R : Rd w0 1 A n (bv l)) (hn : n ≤ 1099511620000) :
    Ret Try.prog 33 [.slice A n c0] w0 fun v w' => v = .agg (bv (ldig l)).toArray ∧ Below w0.heap.size w0 w' := by
  have hl : l.length = n := by simpa using R.1
  refine enter Try.func33 rfl Try.ntmps33 (Nat.le_of_ble_eq_true rfl) ?_
  have S := St.init w0
  refine s_seq (s_plain ?_)
  refine p_does (d_allocA S zv29) rfl ?_
  rintro _ w ⟨b1, rfl, S⟩
  refine p_nil (x_then (s_seq (s_plain ?_)))
  refine p_val (e_move (v := .slice _ _ _) rfl) rfl ?_
  refine p_does (d_lit1 S Try.underlying90 sz33 zv33 rfl (vs := [.slice _ _ _]) rfl rfl rfl (by decide)) rfl ?_
  rintro _ w ⟨b2, rfl, S⟩
  refine p_does (d_call Try.func19 nm19 rfl rfl (join_calls _ 14 _ _ [l] (Parts.one (S.rdRw 0 rfl rfl) (S.rdOld R rfl)) (by simp [joinB, len4]; omega) (by simp))) rfl ?_
  rintro _ w ⟨rfl, hB⟩
  have S := S.below hB
  refine p_does (d_storeW S 1 rfl rfl (bv_one _) sz29 (by simp [length_join]) rfl rfl (by rfl)) rfl ?_
  intro _ w S
  refine p_nil (x_then (s_ret ?_))
  exact postC Try.results33 S 1 rfl rfl rfl ag29 sz29 (by simp [length_join]) ⟨rfl, S.to_below⟩
theorem lbit_calls (w0 : World) (s : List Nat) (i : Nat) (hs : s.length = 32) (hi : i < 256) :
    Ret Try.prog 84 [.agg (bv s).toArray, .int .i64 (i : Int)] w0 fun v w' => v = .int .i64 ((lbit s i : Nat) : Int) ∧ Below w0.heap.size w0 w' := by
  refine enter Try.func84 rfl Try.ntmps84 (Nat.le_of_ble_eq_true rfl) ?_
  have S := St.init w0
  refine s_seq (s_plain ?_)
  refine p_does (d_boxA S rfl) rfl ?_
  rintro _ w ⟨b1, rfl, S⟩
  refine p_val (e_assign (v := .int _ _) rfl) rfl ?_
  refine p_nil (x_then (s_seq (s_plain ?_)))
  refine p_val (e_move (v := .int _ _) rfl) rfl ?_
  refine p_val (e_quo64 rfl rfl (by omega)) rfl ?_
  refine p_val (e_ix_arr rfl rfl Try.underlying29 sz5 (by omega)) rfl ?_
  refine p_val (e_load rfl ag5 ((S.cell 0 rfl rfl _).trans (by rw [show (((i : Int) / 8).toNat * 1) = i / 8 by omega]; exact bv_getA (by omega)))) rfl ?_
  refine p_val (e_move (v := .int _ _) rfl) rfl ?_
  refine p_val (e_rem64 rfl rfl (by omega)) rfl ?_
  refine p_val (e_sub64 rfl rfl (by omega)) rfl ?_
  refine p_val (e_shr64 (7 - i % 8) rfl (show Value.int .i64 (7 - (i : Int) % 8) = .int .i64 ((7 - i % 8 : Nat) : Int) from congrArg _ (by omega)) (by show 7 - i % 8 ≤ 8; omega)) rfl ?_
  refine p_val (e_conv rfl Try.underlying5 (by simp) Try.underlying3) rfl ?_
  refine p_val (e_and1 rfl rfl) rfl ?_
  refine p_val (e_assign (v := .int _ _) rfl) rfl ?_
  refine p_nil (x_then (s_ret ?_))
  exact post1 (v := .int _ _) Try.results84 rfl ⟨congrArg (Value.int .i64) (by rw [IntKind.wrap_i64]; unfold lbit; omega), S.to_below⟩
theorem l4sec_calls (w0 : World) (s : List Nat) (i b : Int) (hs : s.length = 32) :
    Ret Try.prog 27 [.agg (bv s).toArray, .int .i64 i, .int .i64 b] w0 fun v w' => v = .agg (bv (lsec s i b)).toArray ∧ Below w0.heap.size w0 w' := by
  refine enter Try.func27 rfl Try.ntmps27 (Nat.le_of_ble_eq_true rfl) ?_
  have S := St.init w0
  refine s_seq (s_plain ?_)
  refine p_does (d_boxA S rfl) rfl ?_
  rintro _ w ⟨b1, rfl, S⟩
  refine p_does (d_allocA S zv29) rfl ?_
  rintro _ w ⟨b2, rfl, S⟩
  refine p_nil (x_then (s_seq (s_plain ?_)))
  refine p_val (e_sl_arr rfl Try.underlying29 sz5) rfl ?_
  refine p_val (e_move (v := .int _ _) rfl) rfl ?_
  refine p_val (e_conv8i rfl Try.underlying3 (by simp) Try.underlying5) rfl ?_
  refine p_val (e_move (v := .int _ _) rfl) rfl ?_
  refine p_val (e_conv8i rfl Try.underlying3 (by simp) Try.underlying5) rfl ?_
  refine p_does (d_litB S Try.underlying33 sz5 zv5 rfl (l := [_, _]) rfl rfl (by decide)) rfl ?_
  rintro _ w ⟨b3, rfl, S⟩
  refine p_does (d_lit1 S Try.underlying90 sz33 zv33 rfl (vs := [.slice _ _ _, .slice _ _ _]) rfl rfl rfl (by decide)) rfl ?_
  rintro _ w ⟨b4, rfl, S⟩
  refine p_does (d_call Try.func19 nm19 rfl rfl (join_calls _ 11 _ _ [s, [(i % 256).toNat, (b % 256).toNat]] (Parts.two (S.rdRw 0 rfl rfl) (S.rdBytes 3 rfl rfl hs) (S.rdRw 1 rfl rfl)) (by simp [joinB, len4, hs]) (by simp))) rfl ?_
  rintro _ w ⟨rfl, hB⟩
  have S := S.below hB
  refine p_does (d_storeW S 2 rfl rfl (bv_one _) sz29 (by simp [length_join]) rfl rfl (by rfl)) rfl ?_
  intro _ w S
  refine p_nil (x_then (s_ret ?_))
  exact postC Try.results27 S 2 rfl rfl rfl ag29 sz29 (by simp [length_join]) ⟨rfl, S.to_below⟩
theorem l4shown_calls (w0 : World) (s : List Nat) (hs : s.length = 32) :
    Ret Try.prog 28 [.agg (bv s).toArray] w0 fun v w' => v = .agg (bv (lshown s)).toArray ∧ Below w0.heap.size w0 w' := by
  refine enter Try.func28 rfl Try.ntmps28 (Nat.le_of_ble_eq_true rfl) ?_
  have S := St.init w0
  refine s_seq (s_plain ?_)
  refine p_does (d_boxA S rfl) rfl ?_
  rintro _ w ⟨b1, rfl, S⟩
  refine p_does (d_allocA S zv29) rfl ?_
  rintro _ w ⟨b2, rfl, S⟩
  refine p_nil (x_then (s_seq (s_plain ?_)))
  refine p_val (e_sl_arr rfl Try.underlying29 sz5) rfl ?_
  refine p_does (d_lit1 S Try.underlying90 sz33 zv33 rfl (vs := [.slice _ _ _]) rfl rfl rfl (by decide)) rfl ?_
  rintro _ w ⟨b3, rfl, S⟩
  refine p_does (d_call Try.func19 nm19 rfl rfl (join_calls _ 12 _ _ [s] (Parts.one (S.rdRw 0 rfl rfl) (S.rdBytes 2 rfl rfl hs)) (by simp [joinB, len4, hs]) (by simp))) rfl ?_
  rintro _ w ⟨rfl, hB⟩
  have S := S.below hB
  refine p_does (d_storeW S 1 rfl rfl (bv_one _) sz29 (by simp [length_join]) rfl rfl (by rfl)) rfl ?_
  intro _ w S
  refine p_nil (x_then (s_ret ?_))
  exact postC Try.results28 S 1 rfl rfl rfl ag29 sz29 (by simp [length_join]) ⟨rfl, S.to_below⟩
end Go.Proofs.Ytdhfiamgmokfbaa

/- Law 4's own helpers. It proves no statement by itself. -/
set_option linter.unusedSimpArgs false
set_option linter.unusedVariables false
set_option maxRecDepth 100000
set_option maxHeartbeats 1000000
namespace Go.Proofs.Ytdhfiamgmokfbaa
open Go Go.RowKit E
theorem outB_lt (h : List Nat) : ∀ g, ∀ x ∈ outB h g, x < 256
  | 0, x, hx => by
    have := (List.mem_replicate.1 hx).2
    omega
  | g + 1, x, hx => by
    unfold outB at hx
    rcases List.mem_or_eq_of_mem_set hx with hx | rfl
    · rcases List.mem_or_eq_of_mem_set hx with hx | rfl
      · rcases List.mem_or_eq_of_mem_set hx with hx | rfl
        · rcases List.mem_or_eq_of_mem_set hx with hx | rfl
          · exact outB_lt h g x hx
          · exact Nat.mod_lt _ (by decide)
        · exact Nat.mod_lt _ (by decide)
      · exact Nat.mod_lt _ (by decide)
    · exact Nat.mod_lt _ (by decide)
theorem join_lt (tag : Nat) (ls : List (List Nat)) : ∀ x ∈ join tag ls, x < 256 := by
  unfold join sumOf
  exact outB_lt _ _
theorem getD_lt {l : List Nat} (h : ∀ x ∈ l, x < 256) (i : Nat) : l.getD i 0 < 256 := by
  rw [List.getD_eq_getElem?_getD]
  cases hi : l[i]? with
  | none => decide
  | some x => exact h x (List.mem_of_getElem? hi)
theorem cut_calls (w0 : World) (A : Option Addr) (n c : Nat) (hc : n ≤ c) :
    Ret Try.prog 25 [.slice A n c] w0 fun v w' => v = .slice A (min n 200) c ∧ Below w0.heap.size w0 w' := by
  refine enter Try.func25 rfl Try.ntmps25 (Nat.le_of_ble_eq_true rfl) ?_
  have S := St.init w0
  refine s_seq (s_plain ?_)
  refine p_val (e_assign (v := .slice _ _ _) rfl) rfl ?_
  refine p_nil (x_then (s_seq (s_seq (s_plain ?_))))
  refine p_val (e_move (v := .slice _ _ _) rfl) rfl ?_
  refine p_val (e_len rfl Try.underlying33) rfl ?_
  refine p_val (e_gtr rfl rfl) rfl ?_
  refine p_nil (x_then ?_)
  refine s_cond rfl (fun hc1 => ?_) (fun hc1 => ?_)
  · refine s_seq (s_plain ?_)
    refine p_val (e_move (v := .slice _ _ _) rfl) rfl ?_
    refine p_val (e_sl_h (200) rfl rfl (by omega) (by omega) Try.underlying33 sz5) rfl ?_
    refine p_val (e_assign (v := .slice _ _ _) rfl) rfl ?_
    refine p_nil (x_then (s_ret (x_then_ret ?_)))
    exact post1 (v := .slice _ _ _) Try.results25 rfl ⟨by rw [Nat.min_eq_right (by omega)], S.to_below⟩
  · refine s_skip (x_then (s_seq (s_plain ?_)))
    refine p_val (e_move (v := .slice _ _ _) rfl) rfl ?_
    refine p_val (e_assign (v := .slice _ _ _) rfl) rfl ?_
    refine p_nil (x_then (s_ret ?_))
    exact post1 (v := .slice _ _ _) Try.results25 rfl ⟨by rw [Nat.min_eq_left (by omega)], S.to_below⟩
theorem l4bit_calls (w0 : World) (A : Option Addr) (n c : Nat) (l : List Nat) (i : Nat) (R : Rd w0 1 A n (bv l)) (hn : n ≤ 1099511620000) (hi : i < 256) :
    Ret Try.prog 26 [.slice A n c, .int .i64 (i : Int)] w0 fun v w' => v = .int .i64 ((lbit (ldig l) i : Nat) : Int) ∧ Below w0.heap.size w0 w' := by
  have hl : l.length = n := by simpa using R.1
  have hd : (ldig l).length = 32 := length_ldig l
  have hd' : (join 14 [l]).length = 32 := length_ldig l
  have hlt : (join 14 [l]).getD (i / 8) 0 < 256 := getD_lt (join_lt _ _) _
  refine enter Try.func26 rfl Try.ntmps26 (Nat.le_of_ble_eq_true rfl) ?_
  have S := St.init w0
  refine s_seq (s_plain ?_)
  refine p_val (e_assign (v := .int _ _) rfl) rfl ?_
  refine p_nil (x_then (s_seq (s_plain ?_)))
  refine p_val (e_move (v := .slice _ _ _) rfl) rfl ?_
  refine p_does (d_lit1 S Try.underlying90 sz33 zv33 rfl (vs := [.slice _ _ _]) rfl rfl rfl (by decide)) rfl ?_
  rintro _ w ⟨b1, rfl, S⟩
  refine p_does (d_call Try.func19 nm19 rfl rfl (join_calls _ 14 _ _ [l] (Parts.one (S.rdRw 0 rfl rfl) (S.rdOld R rfl)) (by simp [joinB, len4]; omega) (by simp))) rfl ?_
  rintro _ w ⟨rfl, hB⟩
  have S := S.below hB
  refine p_does (d_allocA S zv29) rfl ?_
  rintro _ w ⟨b2, rfl, S⟩
  refine p_does (d_storeW S 0 rfl rfl (bv_one _) sz29 (by simp [length_join]) rfl rfl (by rfl)) rfl ?_
  intro _ w S
  refine p_nil (x_then (s_seq (s_plain ?_)))
  refine p_val (e_move (v := .int _ _) rfl) rfl ?_
  refine p_val (e_quo64 rfl rfl (by omega)) rfl ?_
  refine p_val (e_ix_arr rfl rfl Try.underlying29 sz5 (by omega)) rfl ?_
  refine p_val (e_load rfl ag5 ((S.cell 0 rfl rfl _).trans (by rw [show (((i : Int) / 8).toNat * 1) = i / 8 by omega]; exact bv_getA (by omega)))) rfl ?_
  refine p_val (e_conv_in rfl Try.underlying5 (by simp) Try.underlying3 (IntWalk.i64_in _ (by omega))) rfl ?_
  refine p_val (e_assign (v := .int _ _) rfl) rfl ?_
  refine p_nil (x_then (s_seq (s_seq (s_plain ?_))))
  refine p_val (e_move (v := .int _ _) rfl) rfl ?_
  refine p_val (e_rem64 rfl rfl (by omega)) rfl ?_
  refine p_val (e_assign (v := .int _ _) rfl) rfl ?_
  refine p_nil (x_then (s_block ?_))
  refine s_loop (α := Nat) (fun g f' w' => ∃ u m, f' = upds u [(6, .int .i64 ((m : Nat) : Int)), (7, .int .i64 ((i % 8 + g : Nat) : Int))] ∧ m = shr32 ((ldig l).getD (i / 8) 0) g ∧ m < 256 ∧ i % 8 + g ≤ 7 ∧ St w0 w' [] [] []) (fun g => 7 - g) (0) (⟨_, (join 14 [l]).getD (i / 8) 0, upds_eq ⟨rfl, congrArg (Value.int .i64) (by omega), trivial⟩, rfl, hlt, by omega, S.none_⟩) ?_
  rintro g f w ⟨u, m, rfl, hm, hm2, hg, S⟩
  refine s_seq (s_seq (s_plain ?_))
  refine p_val (e_move (v := .int _ _) rfl) rfl ?_
  refine p_val (e_lss rfl rfl) rfl ?_
  refine p_nil (x_then ?_)
  refine s_cond rfl (fun hc1 => ?_) (fun hc1 => ?_)
  · refine s_skip (x_then (s_seq (s_block (s_plain ?_))))
    refine p_val (e_move (v := .int _ _) rfl) rfl ?_
    refine p_val (e_quo64 rfl rfl (by omega)) rfl ?_
    refine p_val (e_assign (v := .int _ _) rfl) rfl ?_
    refine p_nil (x_in (x_then (s_plain ?_)))
    refine p_val (e_move (v := .int _ _) rfl) rfl ?_
    refine p_val (e_add64 rfl rfl (by omega)) rfl ?_
    refine p_val (e_assign (v := .int _ _) rfl) rfl ?_
    refine p_nil ?_
    refine x_round (g + 1) _ rfl ⟨_, m / 2, upds_eq ⟨congrArg (Value.int .i64) (by omega), congrArg (Value.int .i64) (by omega), trivial⟩, by rw [hm]; unfold shr32; rw [Nat.shiftRight_succ], by omega, by omega, S⟩ (by omega)
  · refine s_exit (x_then_exit (x_then_exit (x_in_same (x_then (s_seq (s_plain ?_))))))
    refine p_val (e_move (v := .int _ _) rfl) rfl ?_
    refine p_val (e_rem64 rfl rfl (by omega)) rfl ?_
    refine p_val (e_assign (v := .int _ _) rfl) rfl ?_
    refine p_nil (x_then (s_ret ?_))
    exact post1 (v := .int _ _) Try.results26 rfl ⟨congrArg (Value.int .i64) (by rw [lbit, show 7 - i % 8 = g by omega, show (ldig l).getD (i / 8) 0 >>> g = m from hm.symm]; omega), S.to_below⟩
end Go.Proofs.Ytdhfiamgmokfbaa

/- Lists of sums under one sum, walked. It proves no statement by itself. -/
set_option linter.unusedSimpArgs false
set_option linter.unusedVariables false
set_option maxRecDepth 100000
set_option maxHeartbeats 1000000
namespace Go.Proofs.Ytdhfiamgmokfbaa
open Go Go.RowKit E
attribute [local irreducible] wpList seqH treeH
theorem take_getD {l : List (List Nat)} {g : Nat} (h : g < l.length) : l.take (g + 1) = l.take g ++ [l.getD g []] := by
  rw [List.take_add_one, List.getElem?_eq_getElem h, List.getD_eq_getElem?_getD, List.getElem?_eq_getElem h]; rfl
theorem upL_step {l : List (List Nat)} {g : Nat} (h : g % 2 = 0) (hg : g + 1 < l.length) : upL (l.take (g + 2)) = upL (l.take g) ++ [mpair (l.getD g []) (l.getD (g + 1) [])] := by
  have e : l.take (g + 2) = l.take g ++ [l.getD g [], l.getD (g + 1) []] := by
    rw [take_getD hg, take_getD (show g < l.length by omega), List.append_assoc]; rfl
  rw [e, upL_append _ _ (by rw [List.length_take]; omega)]
  rfl
theorem upL_last {l : List (List Nat)} {g : Nat} (h : g % 2 = 0) (hg : g + 1 = l.length) : upL l = upL (l.take g) ++ [l.getD g []] := by
  have e : l = l.take g ++ [l.getD g []] := by
    rw [← take_getD (by omega), List.take_of_length_le (by omega)]
  have e2 := congrArg upL e
  rw [upL_append _ _ (by rw [List.length_take]; omega)] at e2
  exact e2
theorem sv_put {M : List (List Nat)} (h : All32 M) {i : Nat} (hi : i < M.length) (x : List Nat) : (sv M).take (i * 32) ++ bv x ++ (sv M).drop (i * 32 + 32) = sv (M.set i x) := by
  have h1 := flat_take (c := bv) h.len i
  have h2 := flat_drop (c := bv) h.len (i + 1)
  have e : i * 32 + 32 = (i + 1) * 32 := by omega
  unfold sv
  rw [e, h1, h2, List.set_eq_take_append_cons_drop, if_pos hi, List.flatMap_append, List.flatMap_cons, List.append_assoc]
def leavesL (l : List (List Nat)) (g : Nat) : List (List Nat) := (l.take g).map mleaf ++ List.replicate (l.length - g) zsum
theorem leavesL_length {l : List (List Nat)} {g : Nat} (h : g ≤ l.length) : (leavesL l g).length = l.length := by simp [leavesL]; omega
theorem leavesL_all {l : List (List Nat)} {g : Nat} : All32 (leavesL l g) := by
  intro x hx
  rcases List.mem_append.1 hx with h | h
  · obtain ⟨y, _, rfl⟩ := List.mem_map.1 h; exact length_mleaf y
  · rw [(List.mem_replicate.1 h).2]; exact length_zsum
theorem leavesL_step {l : List (List Nat)} {g : Nat} (h : g < l.length) : (leavesL l g).set g (mleaf (l.getD g [])) = leavesL l (g + 1) := by
  unfold leavesL
  have h1 : ((l.take g).map mleaf).length = g := by simp; omega
  rw [List.set_append_right _ _ (by omega), h1, Nat.sub_self, show l.length - g = (l.length - (g + 1)) + 1 by omega, List.replicate_succ, List.set_cons_zero, take_getD h, List.map_append, List.append_assoc]
  rfl
theorem leavesL_all_done (l : List (List Nat)) : leavesL l l.length = l.map mleaf := by simp [leavesL]
theorem map_leaf_all (l : List (List Nat)) : All32 (l.map mleaf) := by
  intro x hx
  obtain ⟨y, _, rfl⟩ := List.mem_map.1 hx
  exact length_mleaf y
def mroot (l : List (List Nat)) : List Nat := if l.length = 0 then join 3 [] else rootI (l.map mleaf)
theorem length_rootI : ∀ (m : Nat) (l : List (List Nat)), l.length = m → 0 < l.length → All32 l → (rootI l).length = 32 := by
  intro m
  induction m using Nat.strongRecOn with
  | _ m ih =>
    intro l hm h0 ha
    by_cases h1 : l.length ≤ 1
    · match l, h0, h1 with
      | [x], _, _ => rw [rootI_one]; exact ha x (by simp)
    · rw [rootI_up h1]
      exact ih _ (by rw [upL_length]; omega) (upL l) rfl (by rw [upL_length]; omega) (upL_all ha)
theorem length_mroot (l : List (List Nat)) : (mroot l).length = 32 := by
  unfold mroot
  split
  · exact length_join _ _
  · exact length_rootI _ _ rfl (by rw [List.length_map]; omega) (map_leaf_all l)
theorem mk_leaf (w0 : World) (s : List Nat) (hs : s.length = 32) :
    Ret Try.prog 44 [.agg (bv s).toArray] w0 fun v w' => v = .agg (bv (mleaf s)).toArray ∧ Below w0.heap.size w0 w' := by
  refine enter Try.func44 rfl Try.ntmps44 (Nat.le_of_ble_eq_true rfl) ?_
  have S := St.init w0
  refine s_seq (s_plain ?_)
  refine p_does (d_boxA S rfl) rfl ?_
  rintro _ w ⟨b1, rfl, S⟩
  refine p_does (d_allocA S zvS) rfl ?_
  rintro _ w ⟨b2, rfl, S⟩
  refine p_nil (x_then (s_seq (s_plain ?_)))
  refine p_val (e_sl_arr rfl Try.underlying29 sz5) rfl ?_
  refine p_does (d_lit1 S Try.underlying90 sz33 zv33 rfl (vs := [.slice _ _ _]) rfl rfl rfl (by decide)) rfl ?_
  rintro _ w ⟨b4, rfl, S⟩
  refine p_does (d_call Try.func19 nm19 rfl rfl (join_calls _ _ _ _ [_] (Parts.one (S.rdRw 0 rfl rfl) (S.rdBytes 2 rfl rfl (by first | with_reducible assumption | (rw [bv_length]; with_reducible assumption) | (simp [cat, hs, length_join]; done) | (simp [cat, hs, length_join]; omega) | rfl))) (by first | (simp [joinB, len4, cat, hs, length_join]; done) | (simp [joinB, len4, cat, hs, length_join]; omega)) (by simp))) rfl ?_
  rintro _ w ⟨rfl, hB⟩
  have S := S.below hB
  refine p_does (d_storeW S 1 rfl rfl (by first | exact bv_one _ | exact sv_one _ | exact iv_one _ | with_reducible assumption | (refine One.mem ?_; repeat (first | exact One.bv _ | exact One.sv _ | exact One.iv _ | exact One.nil | exact One.cat0 | refine One.cat1 ?_ ?_ | refine One.cons rfl ?_ | refine One.append ?_ ?_))) sz29 (by first | with_reducible assumption | (rw [bv_length]; with_reducible assumption) | (simp [cat, hs, length_join]; done) | (simp [cat, hs, length_join]; omega) | rfl) rfl rfl (by first | with_reducible assumption | (rw [bv_length]; with_reducible assumption) | (simp [cat, hs, length_join]; done) | (simp [cat, hs, length_join]; omega) | rfl)) rfl ?_
  intro _ w S
  refine p_nil (x_then (s_ret ?_))
  exact postC Try.results44 S 1 rfl rfl rfl ag29 sz29 (by first | with_reducible assumption | (rw [bv_length]; with_reducible assumption) | (simp [cat, hs, length_join]; done) | (simp [cat, hs, length_join]; omega) | rfl) (⟨rfl, S.to_below⟩)
theorem l3leaf (w0 : World) (s : List Nat) (hs : s.length = 32) :
    Ret Try.prog 45 [.agg (bv s).toArray] w0 fun v w' => v = .agg (bv (mleaf s)).toArray ∧ Below w0.heap.size w0 w' := by
  refine enter Try.func45 rfl Try.ntmps45 (Nat.le_of_ble_eq_true rfl) ?_
  have S := St.init w0
  refine s_seq (s_plain ?_)
  refine p_does (d_boxA S rfl) rfl ?_
  rintro _ w ⟨b1, rfl, S⟩
  refine p_does (d_allocA S zvS) rfl ?_
  rintro _ w ⟨b2, rfl, S⟩
  refine p_nil (x_then (s_seq (s_plain ?_)))
  refine p_val (e_sl_arr rfl Try.underlying29 sz5) rfl ?_
  refine p_does (d_lit1 S Try.underlying90 sz33 zv33 rfl (vs := [.slice _ _ _]) rfl rfl rfl (by decide)) rfl ?_
  rintro _ w ⟨b4, rfl, S⟩
  refine p_does (d_call Try.func19 nm19 rfl rfl (join_calls _ _ _ _ [_] (Parts.one (S.rdRw 0 rfl rfl) (S.rdBytes 2 rfl rfl (by first | with_reducible assumption | (rw [bv_length]; with_reducible assumption) | (simp [cat, hs, length_join]; done) | (simp [cat, hs, length_join]; omega) | rfl))) (by first | (simp [joinB, len4, cat, hs, length_join]; done) | (simp [joinB, len4, cat, hs, length_join]; omega)) (by simp))) rfl ?_
  rintro _ w ⟨rfl, hB⟩
  have S := S.below hB
  refine p_does (d_storeW S 1 rfl rfl (by first | exact bv_one _ | exact sv_one _ | exact iv_one _ | with_reducible assumption | (refine One.mem ?_; repeat (first | exact One.bv _ | exact One.sv _ | exact One.iv _ | exact One.nil | exact One.cat0 | refine One.cat1 ?_ ?_ | refine One.cons rfl ?_ | refine One.append ?_ ?_))) sz29 (by first | with_reducible assumption | (rw [bv_length]; with_reducible assumption) | (simp [cat, hs, length_join]; done) | (simp [cat, hs, length_join]; omega) | rfl) rfl rfl (by first | with_reducible assumption | (rw [bv_length]; with_reducible assumption) | (simp [cat, hs, length_join]; done) | (simp [cat, hs, length_join]; omega) | rfl)) rfl ?_
  intro _ w S
  refine p_nil (x_then (s_ret ?_))
  exact postC Try.results45 S 1 rfl rfl rfl ag29 sz29 (by first | with_reducible assumption | (rw [bv_length]; with_reducible assumption) | (simp [cat, hs, length_join]; done) | (simp [cat, hs, length_join]; omega) | rfl) (⟨rfl, S.to_below⟩)
theorem mk_leaves (w0 : World) (A : Option Addr) (c : Nat) (L : List (List Nat)) (R : Rd w0 32 A L.length (sv L)) (hL : All32 L) (hn : L.length ≤ 1000000) :
    Ret Try.prog 86 [.slice A L.length c] w0 fun v w' => ∃ k c, v = .slice (at_ k) (L.map mleaf).length c ∧ St w0 w' [] [k] [Rw 29 32 (L.map mleaf).length c (sv (L.map mleaf))] := by
  refine enter Try.func86 rfl Try.ntmps86 (Nat.le_of_ble_eq_true rfl) ?_
  have S := St.init w0
  refine s_seq (s_plain ?_)
  refine p_val (e_assign (v := .slice _ _ _) rfl) rfl ?_
  refine p_nil (x_then (s_seq (s_plain ?_)))
  refine p_val (e_move (v := .slice _ _ _) rfl) rfl ?_
  refine p_val (e_len rfl Try.underlying24) rfl ?_
  refine p_does (d_makeN (c := bv) (z0 := zsum) S Try.underlying24 el29 zvS rfl L.length rfl rfl (by omega) (by unfold maxLen; omega)) rfl ?_
  rintro _ w ⟨b8, rfl, S⟩
  refine p_val (e_assign (v := .slice _ _ _) rfl) rfl ?_
  refine p_nil (x_then (s_seq (s_seq (s_plain ?_))))
  refine p_val (e_move (v := .slice _ _ _) rfl) rfl ?_
  refine p_val (e_len rfl Try.underlying24) rfl ?_
  refine p_val (e_move (v := .int _ _) rfl) rfl ?_
  refine p_nil (x_then (s_block ?_))
  refine s_loopK (α := Nat) (ks := [some b8]) (ps := [Rw _ _ _ _ _]) [(3, .slice _ _ _), (9, .slice _ _ _), (10, .int _ _)] ⟨rfl, rfl, rfl, trivial⟩ S (fun keep ks ps g f' w' => ∃ u xs, f' = upds u ((11, .int .i64 (g : Int)) :: keep) ∧ (g ≤ L.length) ∧ (xs = sv (leavesL L g)) ∧ St w0 w' [] [some b8] [Rw 29 32 L.length L.length xs]) (fun g => L.length - g) (0) (⟨_, _, upds_eq ⟨rfl, rfl, rfl, rfl, trivial⟩, by first | omega | rfl | with_reducible assumption | (simp; done) | (simp; omega), by simp [leavesL, sv], S⟩) ?_
  rintro g f w ⟨u, xs, rfl, hg, rfl, S⟩
  refine s_seq (s_plain ?_)
  refine p_val (e_lss rfl rfl) rfl ?_
  refine p_nil (x_then (s_seq ?_))
  refine s_cond rfl (fun hc12 => ?_) (fun hc12 => ?_)
  · refine s_skip (x_then (s_seq (s_block (s_seq (s_plain ?_)))))
    refine p_val (e_move (v := .int _ _) rfl) rfl ?_
    refine p_val (e_ixR (S.rdOld R rfl) (by decide) rfl rfl Try.underlying24 sz29 (by omega)) rfl ?_
    have hgl : (L.getD (g : Int).toNat []).length = 32 := hL.getD (by omega)
    refine p_val (e_loadRA rfl ag29 sz29 (by decide) (Rd.sumA (S.rdOld R rfl) (by with_reducible assumption) (by omega))) rfl ?_
    refine p_does (d_allocA S zvS) rfl ?_
    rintro _ w ⟨b5, rfl, S⟩
    refine p_val (e_assign (v := .int _ _) rfl) rfl ?_
    refine p_does (d_storeW S 0 rfl rfl (by first | exact bv_one _ | exact sv_one _ | exact iv_one _ | with_reducible assumption | (refine One.mem ?_; repeat (first | exact One.bv _ | exact One.sv _ | exact One.iv _ | exact One.nil | exact One.cat0 | refine One.cat1 ?_ ?_ | refine One.cons rfl ?_ | refine One.append ?_ ?_))) sz29 (by first | with_reducible assumption | (rw [bv_length]; with_reducible assumption) | (simp [cat, length_mleaf, hgl]; done) | (simp [cat, length_mleaf, hgl]; omega) | rfl) rfl rfl (by first | with_reducible assumption | (rw [bv_length]; with_reducible assumption) | (simp [cat, length_mleaf, hgl]; done) | (simp [cat, length_mleaf, hgl]; omega) | rfl)) rfl ?_
    intro _ w S
    refine p_nil (x_then (s_plain ?_))
    refine p_val (e_move (v := .slice _ _ _) rfl) rfl ?_
    refine p_val (e_move (v := .int _ _) rfl) rfl ?_
    refine p_val (e_loadW 0 rfl ag29 sz29 S rfl rfl (by first | with_reducible assumption | (rw [bv_length]; with_reducible assumption) | (simp [cat, length_mleaf, hgl]; done) | (simp [cat, length_mleaf, hgl]; omega) | rfl)) rfl ?_
    refine p_does (d_call Try.func44 nm44 rfl rfl (mk_leaf _ _ (by first | with_reducible assumption | (rw [bv_length]; with_reducible assumption) | (simp [cat, length_mleaf, hgl]; done) | (simp [cat, length_mleaf, hgl]; omega) | rfl))) rfl ?_
    rintro _ w ⟨rfl, hB⟩
    have S := S.below hB
    refine p_val (e_ixR (S.rdRw 1 rfl rfl) (by decide) rfl rfl Try.underlying24 sz29 (by omega)) rfl ?_
    refine p_does (d_storeRwN S 1 rfl rfl rfl rfl (bv_one _) sz29 (by simp [length_mleaf]) (by omega) (by decide)) rfl ?_
    intro _ w S
    refine p_nil (x_in (x_then (s_plain ?_)))
    refine p_val (e_add64 rfl rfl (by omega)) rfl ?_
    refine p_val (e_move (v := .int _ _) rfl) rfl ?_
    refine p_nil ?_
    refine x_round (g + 1) _ rfl ⟨_, _, upds_eq ⟨rfl, rfl, rfl, rfl, trivial⟩, by first | omega | rfl | with_reducible assumption | (simp; done) | (simp; omega), by rw [Int.toNat_natCast, sv_put leavesL_all (by rw [leavesL_length hg]; omega), leavesL_step (by omega)], S.pk [1] rfl⟩ (by omega)
  · refine s_exit (x_then_exit (x_then_exit (x_in_same (x_then (s_seq (s_plain ?_))))))
    refine p_val (e_move (v := .slice _ _ _) rfl) rfl ?_
    refine p_val (e_assign (v := .slice _ _ _) rfl) rfl ?_
    refine p_nil (x_then (s_ret ?_))
    exact post1 (v := .slice _ _ _) Try.results86 rfl (by obtain rfl : g = L.length := (by omega); rw [leavesL_all_done] at S; exact ⟨some b8, L.length, by rw [List.length_map], by rw [List.length_map]; exact S.pk [0] rfl⟩)
theorem mk_up (w0 : World) (A : Option Addr) (c : Nat) (L : List (List Nat)) (R : Rd w0 32 A L.length (sv L)) (hL : All32 L) (hn : L.length ≤ 1000000) :
    Ret Try.prog 87 [.slice A L.length c] w0 fun v w' => ∃ k c, v = .slice (at_ k) (upL L).length c ∧ St w0 w' [] [k] [Rw 29 32 (upL L).length c (sv (upL L))] := by
  refine enter Try.func87 rfl Try.ntmps87 (Nat.le_of_ble_eq_true rfl) ?_
  have S := St.init w0
  refine s_seq (s_plain ?_)
  refine p_val (e_assign (v := .slice _ _ _) rfl) rfl ?_
  refine p_nil (x_then (s_seq (s_plain ?_)))
  refine p_val (e_assign (v := .slice _ _ _) rfl) rfl ?_
  refine p_nil (x_then (s_seq (s_seq (s_plain ?_))))
  refine p_val (e_assign (v := .int _ _) rfl) rfl ?_
  refine p_nil (x_then (s_block ?_))
  have S := S.addNil 29 32
  refine s_loopK (α := Nat) (ks := [none]) (ps := [Rw _ _ _ _ _]) [(0, .slice _ _ _)] ⟨rfl, trivial⟩ S (fun keep ks ps g f' w' => ∃ u Kk3 Ck3 m xs, f' = upds u ((3, .slice (at_ Kk3) (m) Ck3) :: (4, .int .i64 (g : Int)) :: keep) ∧ (g % 2 = 0) ∧ (g ≤ L.length) ∧ (m = g / 2) ∧ (xs = sv (upL (L.take g))) ∧ St w0 w' [] [Kk3] [Rw 29 32 (m) Ck3 (xs)]) (fun g => L.length - g) (0) (⟨_, _, _, _, _, upds_eq ⟨rfl, rfl, rfl, trivial⟩, by first | omega | rfl | with_reducible assumption | (simp; done) | (simp; omega), by first | omega | rfl | with_reducible assumption | (simp; done) | (simp; omega), by first | omega | rfl | with_reducible assumption | (simp; done) | (simp; omega), by first | omega | rfl | with_reducible assumption | (simp; done) | (simp; omega), S⟩) ?_
  rintro g f w ⟨u, Kk3, Ck3, m, xs, rfl, hq, hg, rfl, rfl, S⟩
  refine s_seq (s_seq (s_plain ?_))
  refine p_val (e_move (v := .int _ _) rfl) rfl ?_
  refine p_val (e_add64 rfl rfl (by omega)) rfl ?_
  refine p_val (e_move (v := .slice _ _ _) rfl) rfl ?_
  refine p_val (e_len rfl Try.underlying24) rfl ?_
  refine p_val (e_lss rfl rfl) rfl ?_
  refine p_nil (x_then ?_)
  refine s_cond rfl (fun hc9 => ?_) (fun hc9 => ?_)
  · refine s_skip (x_then (s_seq (s_block ?_)))
    have hg1 : (L.getD (g : Int).toNat []).length = 32 := hL.getD (by omega)
    have hg2 : (L.getD ((g : Int) + 1).toNat []).length = 32 := hL.getD (by omega)
    refine s_drawK (ks := []) (ps := []) (S.pk [] rfl) [(true, 0), (true, 1), (true, 2), (true, 3), (true, 4), (true, 5), (true, 6), (true, 7), (true, 8), (true, 9), (false, 10), (false, 11), (false, 12)] [13] [13] mixed (by kernel_rfl) (by repeat (first | exact Calm.post _ _ _ | refine Calm.then ?_ _ | refine Calm.inB ?_ _)) (fun hS => ?_)
    have S := S.drew
    refine q_val (fun w hS => e_move (v := .slice _ _ _) rfl) rfl hS ?_
    refine q_val (fun w hS => e_move (v := .slice _ _ _) rfl) rfl hS ?_
    refine q_val (fun w hS => e_move (v := .int _ _) rfl) rfl hS ?_
    refine q_val (fun w hS => e_ixR (hS.rdOld R rfl) (by decide) rfl rfl Try.underlying24 sz29 (by omega)) rfl hS ?_
    refine q_val (fun w hS => e_loadRA rfl ag29 sz29 (by decide) (Rd.sumA (hS.rdOld R rfl) (by with_reducible assumption) (by omega))) rfl hS ?_
    refine q_val (fun w hS => e_move (v := .slice _ _ _) rfl) rfl hS ?_
    refine q_val (fun w hS => e_move (v := .int _ _) rfl) rfl hS ?_
    refine q_val (fun w hS => e_add64 rfl rfl (by omega)) rfl hS ?_
    refine q_val (fun w hS => e_ixR (hS.rdOld R rfl) (by decide) rfl rfl Try.underlying24 sz29 (by omega)) rfl hS ?_
    refine q_val (fun w hS => e_loadRA rfl ag29 sz29 (by decide) (Rd.sumA (hS.rdOld R rfl) (by with_reducible assumption) (by omega))) rfl hS ?_
    refine q_does (d_call Try.func85 nm85 rfl rfl (pair_calls _ _ _ _ (by first | with_reducible assumption | (rw [bv_length]; with_reducible assumption) | (simp [cat, length_join, hg1, hg2]; done) | (simp [cat, length_join, hg1, hg2]; omega) | rfl) (by first | with_reducible assumption | (rw [bv_length]; with_reducible assumption) | (simp [cat, length_join, hg1, hg2]; done) | (simp [cat, length_join, hg1, hg2]; omega) | rfl))) rfl ?_
    rintro _ w ⟨rfl, hB⟩
    have S := S.below hB
    have hS := S.pk [] rfl
    refine ⟨hS, ?_⟩
    refine q_does (d_litS S Try.underlying24 sz29 zv29 rfl (L := [_]) rfl rfl (by intro x hx; simp at hx; simp [hx, length_join, hg1, hg2]) (by decide)) rfl ?_
    rintro _ w ⟨b23, rfl, S⟩
    have hS := S.pk [] rfl
    refine ⟨hS, ?_⟩
    refine q_does (d_append S 1 rfl rfl Try.underlying24 el29 rfl rfl (S.rdRw 0 rfl rfl) (by first | exact bv_one _ | exact sv_one _ | exact iv_one _ | with_reducible assumption | (refine One.mem ?_; repeat (first | exact One.bv _ | exact One.sv _ | exact One.iv _ | exact One.nil | exact One.cat0 | refine One.cat1 ?_ ?_ | refine One.cons rfl ?_ | refine One.append ?_ ?_))) (by first | omega | (simp only [List.length_append, List.length_cons, List.length_nil, bv_length, length_join, hg1, hg2]; omega) | (simp [cat, length_join, hg1, hg2]; omega)) (by unfold maxLen; first | omega | (simp only [List.length_append, List.length_cons, List.length_nil, bv_length, length_join, hg1, hg2]; omega))) rfl ?_
    rintro _ w ⟨k24, c24, rfl, S⟩
    have hS := S.pk [] rfl
    refine ⟨hS, ?_⟩
    refine q_nil ?_
    refine p_val (e_assign (v := .slice _ _ _) rfl) rfl ?_
    refine p_nil (x_in (x_then (s_plain ?_)))
    refine p_val (e_move (v := .int _ _) rfl) rfl ?_
    refine p_val (e_add64 rfl rfl (by omega)) rfl ?_
    refine p_val (e_assign (v := .int _ _) rfl) rfl ?_
    refine p_nil ?_
    refine x_round (g + 2) _ rfl ⟨_, _, _, _, _, upds_eq ⟨rfl, rfl, rfl, trivial⟩, by first | omega | rfl | with_reducible assumption | (simp; done) | (simp; omega), by first | omega | rfl | with_reducible assumption | (simp; done) | (simp; omega), by first | omega | rfl | with_reducible assumption | (simp; done) | (simp; omega), by rw [← sv_append, upL_step hq (by omega), Int.toNat_natCast, show ((g : Int) + 1).toNat = g + 1 by omega]; rfl, S.pk [1] rfl⟩ (by omega)
  · refine s_exit (x_then_exit (x_then_exit (x_in_same (x_then (s_seq ?_)))))
    refine s_cutK (ks := [Kk3]) (ps := [Rw _ _ _ _ _]) [] trivial S (fun keep ks ps f' w' => ∃ u Kk3 Ck3 m2 xs2, f' = upds u ((3, .slice (at_ Kk3) (m2) Ck3) :: keep) ∧ (m2 = (upL L).length) ∧ (xs2 = sv (upL L)) ∧ St w0 w' [] [Kk3] [Rw 29 32 (m2) Ck3 (xs2)]) ?_ ?_
    · refine s_seq (s_plain ?_)
      refine p_val (e_move (v := .slice _ _ _) rfl) rfl ?_
      refine p_val (e_len rfl Try.underlying24) rfl ?_
      refine p_val (e_rem64 rfl rfl (by omega)) rfl ?_
      refine p_val (e_eql rfl rfl) rfl ?_
      refine p_nil (x_then ?_)
      refine s_cond rfl (fun hc28 => ?_) (fun hc28 => ?_)
      · refine s_plain ?_
        refine p_val (e_move (v := .slice _ _ _) rfl) rfl ?_
        refine p_val (e_move (v := .slice _ _ _) rfl) rfl ?_
        refine p_val (e_move (v := .slice _ _ _) rfl) rfl ?_
        refine p_val (e_len rfl Try.underlying24) rfl ?_
        refine p_val (e_sub64 rfl rfl (by omega)) rfl ?_
        refine p_val (e_ixR (S.rdOld R rfl) (by decide) rfl rfl Try.underlying24 sz29 (by omega)) rfl ?_
        refine p_val (e_loadRA rfl ag29 sz29 (by decide) (Rd.sumA (S.rdOld R rfl) (by with_reducible assumption) (by omega))) rfl ?_
        refine p_does (d_litS S Try.underlying24 sz29 zv29 rfl (L := [_]) rfl rfl (All32.single (hL.getD (by omega))) (by decide)) rfl ?_
        rintro _ w ⟨b36, rfl, S⟩
        refine p_does (d_append S 1 rfl rfl Try.underlying24 el29 rfl rfl (S.rdRw 0 rfl rfl) (by first | exact bv_one _ | exact sv_one _ | exact iv_one _ | with_reducible assumption | (refine One.mem ?_; repeat (first | exact One.bv _ | exact One.sv _ | exact One.iv _ | exact One.nil | exact One.cat0 | refine One.cat1 ?_ ?_ | refine One.cons rfl ?_ | refine One.append ?_ ?_))) (by first | omega | (simp only [List.length_append, List.length_cons, List.length_nil, bv_length, length_join, hg1, hg2]; omega) | (simp [cat, length_join, hg1, hg2]; omega)) (by unfold maxLen; first | omega | (simp only [List.length_append, List.length_cons, List.length_nil, bv_length, length_join, hg1, hg2]; omega))) rfl ?_
        rintro _ w ⟨k37, c37, rfl, S⟩
        refine p_val (e_assign (v := .slice _ _ _) rfl) rfl ?_
        refine p_nil ?_
        exact x_then ⟨_, rfl, _, _, _, _, _, upds_eq ⟨rfl, trivial⟩, by rw [upL_length]; omega, by rw [← sv_append, upL_last (l := L) (g := g) hq (by omega), show ((L.length : Int) - 1).toNat = g by omega], S.pk [1] rfl⟩
      · refine s_skip ?_
        exact x_then ⟨_, rfl, _, _, _, _, _, upds_eq ⟨rfl, trivial⟩, by rw [upL_length]; omega, by rw [List.take_of_length_le (by omega)], S⟩
    · rintro f w ⟨u, Kk3, Ck3, m2, xs2, rfl, rfl, rfl, S⟩
      refine x_then (s_seq (s_plain ?_))
      refine p_val (e_move (v := .slice _ _ _) rfl) rfl ?_
      refine p_val (e_assign (v := .slice _ _ _) rfl) rfl ?_
      refine p_nil (x_then (s_ret ?_))
      exact post1 (v := .slice _ _ _) Try.results87 rfl (⟨_, _, rfl, S.pk [0] rfl⟩)
end Go.Proofs.Ytdhfiamgmokfbaa

/- Roots, paths and what is checked, walked. It proves no statement by itself. -/
set_option linter.unusedSimpArgs false
set_option linter.unusedVariables false
set_option maxRecDepth 100000
set_option maxHeartbeats 1000000
namespace Go.Proofs.Ytdhfiamgmokfbaa
open Go Go.RowKit E
attribute [local irreducible] wpList seqH treeH
theorem Parts.zero {w : World} : Parts w none [] := ⟨[], Rd.nil _ _ _, fun j v h => by simp at h⟩
theorem xor1_sidx (b : Nat) : xor1 (b : Int) = ((sidx b : Nat) : Int) := by
  unfold xor1 sidx
  split <;> omega
theorem rootI_head {l : List (List Nat)} (h : l.length = 1) : rootI l = l.getD 0 [] := by
  match l, h with
  | [x], _ => rw [rootI_one]; rfl
def mpath (l : List (List Nat)) (a : Int) : List (List Nat) := if 0 ≤ a ∧ a < (l.length : Int) then pathI (l.map mleaf) a.toNat else []
theorem sib_all {l : List (List Nat)} (h : All32 l) (a : Nat) : All32 (sib l a) := by
  unfold sib
  split
  · intro x hx; rw [List.mem_singleton.1 hx]; exact h.getD (by assumption)
  · intro x hx; simp at hx
theorem pathI_all : ∀ (m : Nat) (l : List (List Nat)) (a : Nat), l.length = m → All32 l → All32 (pathI l a) := by
  intro m
  induction m using Nat.strongRecOn with
  | _ m ih =>
    intro l a hm hl
    by_cases h1 : l.length ≤ 1
    · rw [pathI_one h1]; intro x hx; simp at hx
    · rw [pathI_up h1]
      exact (sib_all hl a).append (ih _ (by rw [upL_length]; omega) (upL l) (a / 2) rfl (upL_all hl))
theorem mpath_all (l : List (List Nat)) (a : Int) : All32 (mpath l a) := by
  unfold mpath
  split
  · exact pathI_all _ _ _ rfl (map_leaf_all l)
  · intro x hx; simp at hx
theorem mk_root (w0 : World) (A : Option Addr) (c : Nat) (L : List (List Nat)) (R : Rd w0 32 A L.length (sv L)) (hL : All32 L) (hn : L.length ≤ 1000000) :
    Ret Try.prog 42 [.slice A L.length c] w0 fun v w' => v = .agg (bv (mroot L)).toArray ∧ Below w0.heap.size w0 w' := by
  refine enter Try.func42 rfl Try.ntmps42 (Nat.le_of_ble_eq_true rfl) ?_
  have S := St.init w0
  refine s_seq (s_plain ?_)
  refine p_does (d_allocA S zvS) rfl ?_
  rintro _ w ⟨b2, rfl, S⟩
  refine p_nil (x_then (s_seq (s_seq (s_plain ?_))))
  refine p_val (e_move (v := .slice _ _ _) rfl) rfl ?_
  refine p_val (e_len rfl Try.underlying24) rfl ?_
  refine p_val (e_eql rfl rfl) rfl ?_
  refine p_nil (x_then ?_)
  refine s_cond rfl (fun hc6 => ?_) (fun hc6 => ?_)
  · refine s_seq (s_plain ?_)
    refine p_does (d_call Try.func19 nm19 rfl rfl (join_calls _ 3 none 0 [] Parts.zero (by simp [joinB]) (by simp))) rfl ?_
    rintro _ w ⟨rfl, hB⟩
    have S := S.below hB
    refine p_does (d_storeW S 0 rfl rfl (by first | exact bv_one _ | exact sv_one _ | exact iv_one _ | with_reducible assumption | (refine One.mem ?_; repeat (first | exact One.bv _ | exact One.sv _ | exact One.iv _ | exact One.nil | exact One.cat0 | refine One.cat1 ?_ ?_ | refine One.cons rfl ?_ | refine One.append ?_ ?_))) sz29 (by first | with_reducible assumption | (rw [bv_length]; with_reducible assumption) | (simp [cat, length_join, length_zsum]; done) | (simp [cat, length_join, length_zsum]; omega) | rfl) rfl rfl (by first | with_reducible assumption | (rw [bv_length]; with_reducible assumption) | (simp [cat, length_join, length_zsum]; done) | (simp [cat, length_join, length_zsum]; omega) | rfl)) rfl ?_
    intro _ w S
    refine p_nil (x_then (s_ret (x_then_ret ?_)))
    exact postC Try.results42 S 0 rfl rfl rfl ag29 sz29 (by first | with_reducible assumption | (rw [bv_length]; with_reducible assumption) | (simp [cat, length_join, length_zsum]; done) | (simp [cat, length_join, length_zsum]; omega) | rfl) (⟨by unfold mroot; rw [if_pos (by omega)], S.to_below⟩)
  · refine s_skip (x_then (s_seq (s_plain ?_)))
    refine p_val (e_move (v := .slice _ _ _) rfl) rfl ?_
    refine p_does (d_call Try.func86 nm86 rfl rfl (mk_leaves _ _ _ _ (S.rdOld R rfl) (by with_reducible assumption) (by omega))) rfl ?_
    rintro _ w ⟨k9, c9, rfl, T⟩
    have S := S.merge T rfl
    refine p_val (e_assign (v := .slice _ _ _) rfl) rfl ?_
    refine p_nil (x_then (s_seq (s_block ?_)))
    refine s_loopK (α := List (List Nat)) (ks := [k9, some b2]) (ps := [Rw _ _ _ _ _, Ex _ _]) [(2, .pointer _)] ⟨rfl, trivial⟩ S (fun keep ks ps M f' w' => ∃ u Kk9 Ck9, f' = upds u ((3, .slice (at_ Kk9) (M.length) Ck9) :: keep) ∧ (All32 M) ∧ (rootI M = rootI (L.map mleaf)) ∧ (1 ≤ M.length) ∧ (M.length ≤ 1000000) ∧ St w0 w' [] [Kk9, some b2] [Rw 29 32 (M.length) Ck9 (sv M), (ps.getD 1 fun _ => True)]) (fun M => M.length) (L.map mleaf) (⟨_, _, _, upds_eq ⟨rfl, rfl, trivial⟩, map_leaf_all L, by first | omega | rfl | with_reducible assumption | (simp; done) | (simp; omega), by rw [List.length_map]; omega, by rw [List.length_map]; omega, S⟩) ?_
    rintro M f w ⟨u, Kk9, Ck9, rfl, hM, hr, h1, hm, S⟩
    refine s_seq (s_seq (s_plain ?_))
    refine p_val (e_move (v := .slice _ _ _) rfl) rfl ?_
    refine p_val (e_len rfl Try.underlying24) rfl ?_
    refine p_val (e_gtr rfl rfl) rfl ?_
    refine p_nil (x_then ?_)
    refine s_cond rfl (fun hc12 => ?_) (fun hc12 => ?_)
    · refine s_skip (x_then (s_block (s_plain ?_)))
      refine p_val (e_move (v := .slice _ _ _) rfl) rfl ?_
      refine p_does (d_call Try.func87 nm87 rfl rfl (mk_up _ _ _ _ (S.rdRw 0 rfl rfl) (by with_reducible assumption) (by omega))) rfl ?_
      rintro _ w ⟨k14, c14, rfl, T⟩
      have S := S.merge T rfl
      refine p_val (e_assign (v := .slice _ _ _) rfl) rfl ?_
      refine p_nil (x_in ?_)
      refine x_round (upL M) _ rfl ⟨_, _, _, upds_eq ⟨rfl, rfl, trivial⟩, upL_all hM, by rw [← rootI_up (by omega)]; exact hr, by rw [upL_length]; omega, by rw [upL_length]; omega, S.pk [0, 2] rfl⟩ (by rw [upL_length]; omega)
    · refine s_exit (x_then_exit (x_then_exit (x_in_same (x_then (s_seq (s_plain ?_))))))
      have h0 : (M.getD (0 : Int).toNat []).length = 32 := hM.getD (by simp; omega)
      refine p_val (e_move (v := .slice _ _ _) rfl) rfl ?_
      refine p_val (e_ixR (S.rdRw 0 rfl rfl) (by decide) rfl rfl Try.underlying24 sz29 (by omega)) rfl ?_
      refine p_val (e_loadRA rfl ag29 sz29 (by decide) (Rd.sumA (S.rdRw 0 rfl rfl) (by with_reducible assumption) (by omega))) rfl ?_
      refine p_does (d_storeW S 1 rfl rfl (by first | exact bv_one _ | exact sv_one _ | exact iv_one _ | with_reducible assumption | (refine One.mem ?_; repeat (first | exact One.bv _ | exact One.sv _ | exact One.iv _ | exact One.nil | exact One.cat0 | refine One.cat1 ?_ ?_ | refine One.cons rfl ?_ | refine One.append ?_ ?_))) sz29 (by rw [bv_length]; exact h0) rfl rfl (by first | with_reducible assumption | (rw [bv_length]; with_reducible assumption) | (simp [cat, length_join, length_zsum]; done) | (simp [cat, length_join, length_zsum]; omega) | rfl)) rfl ?_
      intro _ w S
      refine p_nil (x_then (s_ret ?_))
      exact postC Try.results42 S 1 rfl rfl rfl ag29 sz29 (by rw [List.size_toArray, bv_length]; exact h0) (⟨by unfold mroot; rw [if_neg (by omega), ← hr, rootI_head (by omega)]; rfl, S.to_below⟩)
theorem mk_path (w0 : World) (a : Int) (A : Option Addr) (c : Nat) (L : List (List Nat)) (R : Rd w0 32 A L.length (sv L)) (hL : All32 L) (hn : L.length ≤ 1000000) :
    Ret Try.prog 41 [.int .i64 a, .slice A L.length c] w0 fun v w' => ∃ k c2, v = .tuple #[.slice (at_ k) (mpath L a).length c2, .bool (decide (0 ≤ a ∧ a < (L.length : Int)))] ∧ St w0 w' [] [k] [Rw 29 32 (mpath L a).length c2 (sv (mpath L a))] := by
  refine enter Try.func41 rfl Try.ntmps41 (Nat.le_of_ble_eq_true rfl) ?_
  have S := St.init w0
  refine s_seq (s_plain ?_)
  refine p_val (e_assign (v := .slice _ _ _) rfl) rfl ?_
  refine p_val (e_assign (v := .bool _) rfl) rfl ?_
  refine p_nil (x_then (s_seq (s_seq ?_)))
  refine s_cutK (ks := []) (ps := []) [(0, .int _ _), (1, .slice _ _ _)] ⟨rfl, rfl, trivial⟩ S (fun keep ks ps f' w' => ∃ u bb, f' = upds u ((16, .bool bb) :: keep) ∧ (bb = true ↔ ((a < (0 : Int)) ∨ (((L.length : Nat) : Int) ≤ a))) ∧ St w0 w' [] ks ps) ?_ ?_
  · refine s_plain ?_
    refine p_val (e_move (v := .int _ _) rfl) rfl ?_
    refine p_valB (e_lss rfl rfl) rfl (fun hg10 => ?_) (fun hg10 => ?_)
    · refine p_val (e_move (v := .bool _) rfl) rfl ?_
      refine p_no rfl rfl rfl rfl rfl ?_
      refine p_no rfl rfl rfl rfl rfl ?_
      refine p_no rfl rfl rfl rfl rfl ?_
      refine p_no rfl rfl rfl rfl rfl ?_
      refine p_val (e_pick_t rfl rfl) rfl ?_
      exact p_nil (x_then ⟨_, rfl, _, _, upds_eq ⟨rfl, rfl, rfl, trivial⟩, by first | (simp only [decide_eq_true_eq, eq_self, true_iff, iff_true, iff_false, Bool.false_eq_true, false_iff, ge_iff_le, gt_iff_lt, true_and, and_true, false_and, and_false, true_or, or_true, false_or, or_false, not_true_eq_false, not_false_eq_true]; omega) | simp | omega | simp_all, S⟩)
    · refine p_val (e_move (v := .bool _) rfl) rfl ?_
      refine pg_val rfl rfl rfl rfl rfl (e_move (v := .int _ _) rfl) ?_
      refine pg_val rfl rfl rfl rfl rfl (e_move (v := .slice _ _ _) rfl) ?_
      refine pg_val rfl rfl rfl rfl rfl (e_len rfl Try.underlying24) ?_
      refine pg_val rfl rfl rfl rfl rfl (e_geq rfl rfl) ?_
      refine p_val (e_pick_f rfl rfl) rfl ?_
      exact p_nil (x_then ⟨_, rfl, _, _, upds_eq ⟨rfl, rfl, rfl, trivial⟩, by first | (simp only [decide_eq_true_eq, eq_self, true_iff, iff_true, iff_false, Bool.false_eq_true, false_iff, ge_iff_le, gt_iff_lt, true_and, and_true, false_and, and_false, true_or, or_true, false_or, or_false, not_true_eq_false, not_false_eq_true]; omega) | simp | omega | simp_all, S⟩)
  · rintro f w ⟨u, b16, rfl, hb16, S⟩
    refine x_then ?_
    refine s_condb rfl (fun hc16 => ?_) (fun hc16 => ?_)
    · have hp16 : ((a < (0 : Int)) ∨ (((L.length : Nat) : Int) ≤ a)) := hb16.1 hc16
      refine s_seq (s_plain ?_)
      refine p_val (e_assign (v := .slice _ _ _) rfl) rfl ?_
      refine p_val (e_assign (v := .bool _) rfl) rfl ?_
      refine p_nil (x_then (s_ret (x_then_ret ?_)))
      exact post2 (v := .slice _ _ _) (x := .bool _) Try.results41 rfl rfl (by have e0 : ¬ (0 ≤ a ∧ a < (L.length : Int)) := by { omega }; unfold mpath; rw [if_neg e0, decide_eq_false e0]; exact ⟨none, 0, rfl, S.none_.addNil 29 32⟩)
    · have hp16 : ¬ ((a < (0 : Int)) ∨ (((L.length : Nat) : Int) ≤ a)) := fun h => by rw [hb16.2 h] at hc16; cases hc16
      refine s_skip (x_then (s_seq (s_plain ?_)))
      refine p_val (e_assign (v := .slice _ _ _) rfl) rfl ?_
      refine p_nil (x_then (s_seq (s_seq (s_plain ?_))))
      refine p_val (e_move (v := .slice _ _ _) rfl) rfl ?_
      refine p_does (d_call Try.func86 nm86 rfl rfl (mk_leaves _ _ _ _ (S.rdOld R rfl) (by with_reducible assumption) (by omega))) rfl ?_
      rintro _ w ⟨k18, c18, rfl, T⟩
      have S := S.merge T rfl
      refine p_val (e_assign (v := .slice _ _ _) rfl) rfl ?_
      refine p_nil (x_then (s_block ?_))
      obtain ⟨b0, rfl⟩ : ∃ b0 : Nat, a = (b0 : Int) := ⟨a.toNat, by omega⟩
      have S := S.addNil 29 32
      refine s_loopK (α := List (List Nat)) (ks := [none, k18]) (ps := [Rw _ _ _ _ _, Rw _ _ _ _ _]) [] trivial S (fun keep ks ps M f' w' => ∃ u Kk6 Ck6 Kk18 Ck18 b O, f' = upds u ((0, .int .i64 ((b : Nat) : Int)) :: (6, .slice (at_ Kk6) (List.length O) Ck6) :: (7, .slice (at_ Kk18) (M.length) Ck18) :: keep) ∧ (All32 M) ∧ (All32 O) ∧ (M.length ≤ 1000000) ∧ (b < M.length) ∧ (O.length + M.length ≤ 1000000) ∧ (O ++ pathI M b = pathI (L.map mleaf) b0) ∧ St w0 w' [] [Kk6, Kk18] [Rw 29 32 (List.length O) Ck6 (sv O), Rw 29 32 (M.length) Ck18 (sv M)]) (fun M => M.length) (L.map mleaf) (⟨_, _,  _,  _,  _,  b0,  [], upds_eq ⟨rfl, rfl, rfl, trivial⟩, map_leaf_all L, by simp [All32], by rw [List.length_map]; omega, by rw [List.length_map]; omega, by rw [List.length_map]; simpa using hn, by first | omega | rfl | with_reducible assumption | (simp; done) | (simp; omega), S⟩) ?_
      rintro M f w ⟨u, Kk6, Ck6, Kk18, Ck18, b, O, rfl, hM, hO, hm, hb, hol, hp, S⟩
      refine s_seq (s_seq (s_plain ?_))
      refine p_val (e_move (v := .slice _ _ _) rfl) rfl ?_
      refine p_val (e_len rfl Try.underlying24) rfl ?_
      refine p_val (e_gtr rfl rfl) rfl ?_
      refine p_nil (x_then ?_)
      refine s_cond rfl (fun hc21 => ?_) (fun hc21 => ?_)
      · refine s_skip (x_then (s_seq (s_block (s_seq ?_))))
        refine s_cutK (ks := [Kk6, Kk18]) (ps := [Rw _ _ _ _ _, Rw _ _ _ _ _]) [(0, .int _ _), (7, .slice _ _ _)] ⟨rfl, rfl, trivial⟩ S (fun keep ks ps f' w' => ∃ u Kk6 Ck6 m2 xs2 O2, f' = upds u ((6, .slice (at_ Kk6) (m2) Ck6) :: keep) ∧ (m2 = List.length O2) ∧ (xs2 = sv O2) ∧ (O2 = O ++ sib M b) ∧ (O2.length ≤ O.length + 1) ∧ St w0 w' [] [Kk6, Kk18] [Rw 29 32 (m2) Ck6 (xs2), (ps.getD 1 fun _ => True)]) ?_ ?_
        · refine s_seq (s_plain ?_)
          refine p_val (e_move (v := .int _ _) rfl) rfl ?_
          refine p_val (e_xor1 rfl rfl (by omega)) rfl ?_
          rw [xor1_sidx]
          refine p_val (e_assign (v := .int _ _) rfl) rfl ?_
          refine p_nil (x_then (s_seq (s_plain ?_)))
          refine p_val (e_move (v := .int _ _) rfl) rfl ?_
          refine p_val (e_move (v := .slice _ _ _) rfl) rfl ?_
          refine p_val (e_len rfl Try.underlying24) rfl ?_
          refine p_val (e_lss rfl rfl) rfl ?_
          refine p_nil (x_then ?_)
          refine s_cond rfl (fun hc29 => ?_) (fun hc29 => ?_)
          · refine s_plain ?_
            have h0 : (M.getD ((sidx b : Nat) : Int).toNat []).length = 32 := hM.getD (by omega)
            refine p_val (e_move (v := .slice _ _ _) rfl) rfl ?_
            refine p_val (e_move (v := .slice _ _ _) rfl) rfl ?_
            refine p_val (e_move (v := .int _ _) rfl) rfl ?_
            refine p_val (e_ixR (S.rdRw 1 rfl rfl) (by decide) rfl rfl Try.underlying24 sz29 (by omega)) rfl ?_
            refine p_val (e_loadRA rfl ag29 sz29 (by decide) (Rd.sumA (S.rdRw 1 rfl rfl) (by with_reducible assumption) (by omega))) rfl ?_
            refine p_does (d_litS S Try.underlying24 sz29 zv29 rfl (L := [_]) rfl rfl (All32.single h0) (by decide)) rfl ?_
            rintro _ w ⟨b35, rfl, S⟩
            refine p_does (d_append S 1 rfl rfl Try.underlying24 el29 rfl rfl (S.rdRw 0 rfl rfl) (by first | exact bv_one _ | exact sv_one _ | exact iv_one _ | with_reducible assumption | (refine One.mem ?_; repeat (first | exact One.bv _ | exact One.sv _ | exact One.iv _ | exact One.nil | exact One.cat0 | refine One.cat1 ?_ ?_ | refine One.cons rfl ?_ | refine One.append ?_ ?_))) (by first | omega | (simp only [List.length_append, List.length_cons, List.length_nil, bv_length, length_join]; omega) | (simp [cat, length_join]; omega)) (by unfold maxLen; first | omega | (simp only [List.length_append, List.length_cons, List.length_nil, bv_length, length_join]; omega))) rfl ?_
            rintro _ w ⟨k36, c36, rfl, S⟩
            refine p_val (e_assign (v := .slice _ _ _) rfl) rfl ?_
            refine p_nil ?_
            exact x_then ⟨_, rfl, _, _,  _,  _,  _,  O ++ [M.getD ((sidx b : Nat) : Int).toNat []], upds_eq ⟨rfl, rfl, rfl, trivial⟩, by simp, (sv_append _ _).symm, by unfold sib; rw [if_pos (by omega), Int.toNat_natCast], by simp, S.pk [1, 2] rfl⟩
          · refine s_skip ?_
            exact x_then ⟨_, rfl, _, _,  _,  _,  _,  O, upds_eq ⟨rfl, rfl, rfl, trivial⟩, by first | omega | rfl | with_reducible assumption | (simp; done) | (simp; omega), by first | omega | rfl | with_reducible assumption | (simp; done) | (simp; omega), by unfold sib; rw [if_neg (by omega), List.append_nil], by first | omega | rfl | with_reducible assumption | (simp; done) | (simp; omega), S⟩
        · rintro f w ⟨u, Kk6, Ck6, m2, xs2, O2, rfl, rfl, rfl, hO2, hO3, S⟩
          refine x_then (s_plain ?_)
          refine p_val (e_move (v := .int _ _) rfl) rfl ?_
          refine p_val (e_quo64 rfl rfl (by omega)) rfl ?_
          refine p_val (e_assign (v := .int _ _) rfl) rfl ?_
          refine p_nil (x_in (x_then (s_plain ?_)))
          refine p_val (e_move (v := .slice _ _ _) rfl) rfl ?_
          refine p_does (d_call Try.func87 nm87 rfl rfl (mk_up _ _ _ _ (S.rdRw 1 rfl rfl) (by with_reducible assumption) (by omega))) rfl ?_
          rintro _ w ⟨k23, c23, rfl, T⟩
          have S := S.merge T rfl
          refine p_val (e_assign (v := .slice _ _ _) rfl) rfl ?_
          refine p_nil ?_
          refine x_round (upL M) _ rfl ⟨_, _,  _,  _,  _,  b / 2,  O2, upds_eq ⟨rfl, rfl, rfl, trivial⟩, upL_all hM, by rw [hO2]; exact hO.append (sib_all hM b), by rw [upL_length]; omega, by rw [upL_length]; omega, by rw [upL_length]; omega, by rw [hO2, List.append_assoc, ← pathI_up (by omega)]; exact hp, S.pk [1, 0] rfl⟩ (by rw [upL_length]; omega)
      · refine s_exit (x_then_exit (x_then_exit (x_in_same (x_then (s_seq (s_plain ?_))))))
        refine p_val (e_move (v := .slice _ _ _) rfl) rfl ?_
        refine p_val (e_assign (v := .slice _ _ _) rfl) rfl ?_
        refine p_val (e_assign (v := .bool _) rfl) rfl ?_
        refine p_nil (x_then (s_ret ?_))
        exact post2 (v := .slice _ _ _) (x := .bool _) Try.results41 rfl rfl (by have e0 : 0 ≤ (b0 : Int) ∧ (b0 : Int) < (L.length : Int) := by { omega }; have e1 : mpath L (b0 : Int) = O := by { unfold mpath; rw [if_pos e0, Int.toNat_natCast, ← hp, pathI_one (by omega), List.append_nil] }; rw [e1, decide_eq_true e0]; exact ⟨_, _, rfl, S.pk [0] rfl⟩)
end Go.Proofs.Ytdhfiamgmokfbaa

/- What is checked by a path, walked. It proves no statement by itself. -/
set_option linter.unusedSimpArgs false
set_option linter.unusedVariables false
set_option maxRecDepth 100000
set_option maxHeartbeats 1000000
namespace Go.Proofs.Ytdhfiamgmokfbaa
open Go Go.RowKit E
attribute [local irreducible] wpList seqH treeH
def climbC (now : List Nat) (b n : Nat) (P : List (List Nat)) : Option (List Nat) :=
  if h : n ≤ 1 then (match P with | [] => some now | _ :: _ => none)
  else if sidx b < n then (match P with | [] => none | p :: P' => climbC (if b % 2 = 0 then mpair now p else mpair p now) (b / 2) ((n + 1) / 2) P')
  else climbC now (b / 2) ((n + 1) / 2) P
termination_by n
theorem climbC_end {now : List Nat} {b n : Nat} {P : List (List Nat)} (h : n ≤ 1) : climbC now b n P = (match P with | [] => some now | _ :: _ => none) := by rw [climbC.eq_def, dif_pos h]
theorem climbC_nil {now : List Nat} {b n : Nat} (h : ¬ n ≤ 1) (hs : sidx b < n) : climbC now b n [] = none := by rw [climbC.eq_def, dif_neg h, if_pos hs]
theorem climbC_cons {now p : List Nat} {b n : Nat} {P : List (List Nat)} (h : ¬ n ≤ 1) (hs : sidx b < n) : climbC now b n (p :: P) = climbC (if b % 2 = 0 then mpair now p else mpair p now) (b / 2) ((n + 1) / 2) P := by rw [climbC.eq_def, dif_neg h, if_pos hs]
theorem climbC_no {now : List Nat} {b n : Nat} {P : List (List Nat)} (h : ¬ n ≤ 1) (hs : ¬ sidx b < n) : climbC now b n P = climbC now (b / 2) ((n + 1) / 2) P := by rw [climbC.eq_def, dif_neg h, if_neg hs]
def mcheck (r s : List Nat) (a m : Int) (P : List (List Nat)) : Prop := 0 ≤ a ∧ a < m ∧ m ≤ 4096 ∧ climbC (mleaf s) a.toNat m.toNat P = some r
instance (r s : List Nat) (a m : Int) (P : List (List Nat)) : Decidable (mcheck r s a m P) := by unfold mcheck; infer_instance
theorem mk_check (w0 : World) (r s : List Nat) (a m : Int) (A : Option Addr) (c : Nat) (P : List (List Nat)) (hr : r.length = 32) (hs : s.length = 32) (R : Rd w0 32 A P.length (sv P)) (hP0 : All32 P) (cR : P.length ≤ c) :
    Ret Try.prog 38 [.agg (bv r).toArray, .agg (bv s).toArray, .int .i64 a, .int .i64 m, .slice A P.length c] w0 fun v w' => v = .bool (decide (mcheck r s a m P)) ∧ Below w0.heap.size w0 w' := by
  refine enter Try.func38 rfl Try.ntmps38 (Nat.le_of_ble_eq_true rfl) ?_
  have S := St.init w0
  refine s_seq (s_plain ?_)
  refine p_does (d_boxA S rfl) rfl ?_
  rintro _ w ⟨b5, rfl, S⟩
  refine p_does (d_boxA S rfl) rfl ?_
  rintro _ w ⟨b6, rfl, S⟩
  refine p_val (e_assign (v := .bool _) rfl) rfl ?_
  refine p_nil (x_then (s_seq (s_seq ?_)))
  refine s_cutK (ks := [some b6, some b5]) (ps := [Ex _ _, Ex _ _]) [(2, .int _ _), (3, .int _ _), (4, .slice _ _ _), (5, .pointer _), (6, .pointer _)] ⟨rfl, rfl, rfl, rfl, rfl, trivial⟩ S (fun keep ks ps f' w' => ∃ u bb, f' = upds u ((22, .bool bb) :: keep) ∧ (bb = true ↔ (((a < (0 : Int)) ∨ (m ≤ a)) ∨ ((4096 : Int) < m))) ∧ St w0 w' [] ks ps) ?_ ?_
  · refine s_plain ?_
    refine p_val (e_move (v := .int _ _) rfl) rfl ?_
    refine p_valB (e_lss rfl rfl) rfl (fun hg13 => ?_) (fun hg13 => ?_)
    · refine p_val (e_move (v := .bool _) rfl) rfl ?_
      refine p_no rfl rfl rfl rfl rfl ?_
      refine p_no rfl rfl rfl rfl rfl ?_
      refine p_no rfl rfl rfl rfl rfl ?_
      refine p_val (e_pick_t rfl rfl) rfl ?_
      refine p_val (e_move (v := .bool _) rfl) rfl ?_
      refine p_no rfl rfl rfl rfl rfl ?_
      refine p_no rfl rfl rfl rfl rfl ?_
      refine p_val (e_pick_t rfl rfl) rfl ?_
      exact p_nil (x_then ⟨_, rfl, _, _, upds_eq ⟨rfl, rfl, rfl, rfl, rfl, rfl, trivial⟩, by first | (simp only [decide_eq_true_eq, eq_self, true_iff, iff_true, iff_false, Bool.false_eq_true, false_iff, ge_iff_le, gt_iff_lt, true_and, and_true, false_and, and_false, true_or, or_true, false_or, or_false, not_true_eq_false, not_false_eq_true]; omega) | simp | omega | simp_all, S⟩)
    · refine p_val (e_move (v := .bool _) rfl) rfl ?_
      refine pg_val rfl rfl rfl rfl rfl (e_move (v := .int _ _) rfl) ?_
      refine pg_val rfl rfl rfl rfl rfl (e_move (v := .int _ _) rfl) ?_
      refine pg_valB rfl rfl rfl rfl rfl (e_geq rfl rfl) (fun hg17 => ?_) (fun hg17 => ?_)
      · refine p_val (e_pick_f rfl rfl) rfl ?_
        refine p_val (e_move (v := .bool _) rfl) rfl ?_
        refine p_no rfl rfl rfl rfl rfl ?_
        refine p_no rfl rfl rfl rfl rfl ?_
        refine p_val (e_pick_t rfl rfl) rfl ?_
        exact p_nil (x_then ⟨_, rfl, _, _, upds_eq ⟨rfl, rfl, rfl, rfl, rfl, rfl, trivial⟩, by first | (simp only [decide_eq_true_eq, eq_self, true_iff, iff_true, iff_false, Bool.false_eq_true, false_iff, ge_iff_le, gt_iff_lt, true_and, and_true, false_and, and_false, true_or, or_true, false_or, or_false, not_true_eq_false, not_false_eq_true]; omega) | simp | omega | simp_all, S⟩)
      · refine p_val (e_pick_f rfl rfl) rfl ?_
        refine p_val (e_move (v := .bool _) rfl) rfl ?_
        refine pg_val rfl rfl rfl rfl rfl (e_move (v := .int _ _) rfl) ?_
        refine pg_val rfl rfl rfl rfl rfl (e_gtr rfl rfl) ?_
        refine p_val (e_pick_f rfl rfl) rfl ?_
        exact p_nil (x_then ⟨_, rfl, _, _, upds_eq ⟨rfl, rfl, rfl, rfl, rfl, rfl, trivial⟩, by first | (simp only [decide_eq_true_eq, eq_self, true_iff, iff_true, iff_false, Bool.false_eq_true, false_iff, ge_iff_le, gt_iff_lt, true_and, and_true, false_and, and_false, true_or, or_true, false_or, or_false, not_true_eq_false, not_false_eq_true]; omega) | simp | omega | simp_all, S⟩)
  · rintro f w ⟨u, b22, rfl, hb22, S⟩
    refine x_then ?_
    refine s_condb rfl (fun hc22 => ?_) (fun hc22 => ?_)
    · have hp22 : (((a < (0 : Int)) ∨ (m ≤ a)) ∨ ((4096 : Int) < m)) := hb22.1 hc22
      refine s_seq (s_plain ?_)
      refine p_val (e_assign (v := .bool _) rfl) rfl ?_
      refine p_nil (x_then (s_ret (x_then_ret ?_)))
      exact post1 (v := .bool _) Try.results38 rfl (⟨by rw [decide_eq_false (fun h => by have h1 := h.1; have h2 := h.2.1; have h3 := h.2.2.1; omega)], S.to_below⟩)
    · have hp22 : ¬ (((a < (0 : Int)) ∨ (m ≤ a)) ∨ ((4096 : Int) < m)) := fun h => by rw [hb22.2 h] at hc22; cases hc22
      refine s_skip (x_then (s_seq (s_plain ?_)))
      refine p_val (e_loadW 0 rfl ag29 sz29 S rfl rfl (by first | with_reducible assumption | (rw [bv_length]; with_reducible assumption) | (rw [List.size_toArray, bv_length]; with_reducible assumption) | (simp [cat, length_join, length_mleaf, length_mpair, hr, hs]; done) | (simp [cat, length_join, length_mleaf, length_mpair, hr, hs]; omega) | rfl)) rfl ?_
      refine p_does (d_call Try.func44 nm44 rfl rfl (mk_leaf _ _ (by first | with_reducible assumption | (rw [bv_length]; with_reducible assumption) | (rw [List.size_toArray, bv_length]; with_reducible assumption) | (simp [cat, length_join, length_mleaf, length_mpair, hr, hs]; done) | (simp [cat, length_join, length_mleaf, length_mpair, hr, hs]; omega) | rfl))) rfl ?_
      rintro _ w ⟨rfl, hB⟩
      have S := S.below hB
      refine p_does (d_allocA S zvS) rfl ?_
      rintro _ w ⟨b11, rfl, S⟩
      refine p_does (d_storeW S 0 rfl rfl (by first | exact bv_one _ | exact sv_one _ | exact iv_one _ | with_reducible assumption | (refine One.mem ?_; repeat (first | exact One.bv _ | exact One.sv _ | exact One.iv _ | exact One.nil | exact One.cat0 | refine One.cat1 ?_ ?_ | refine One.cons rfl ?_ | refine One.append ?_ ?_))) sz29 (by first | with_reducible assumption | (rw [bv_length]; with_reducible assumption) | (rw [List.size_toArray, bv_length]; with_reducible assumption) | (simp [cat, length_join, length_mleaf, length_mpair, hr, hs]; done) | (simp [cat, length_join, length_mleaf, length_mpair, hr, hs]; omega) | rfl) rfl rfl (by first | with_reducible assumption | (rw [bv_length]; with_reducible assumption) | (rw [List.size_toArray, bv_length]; with_reducible assumption) | (simp [cat, length_join, length_mleaf, length_mpair, hr, hs]; done) | (simp [cat, length_join, length_mleaf, length_mpair, hr, hs]; omega) | rfl)) rfl ?_
      intro _ w S
      refine p_nil (x_then (s_seq (s_block ?_)))
      obtain ⟨a0, rfl⟩ : ∃ b0 : Nat, a = (b0 : Int) := ⟨a.toNat, by omega⟩
      obtain ⟨m0, rfl⟩ : ∃ b0 : Nat, m = (b0 : Int) := ⟨m.toNat, by omega⟩
      refine s_loopK (α := Nat) (ks := [some b11, some b6, some b5]) (ps := [Ex _ _, Ex _ _, Ex _ _]) [(5, .pointer _), (11, .pointer _)] ⟨rfl, rfl, trivial⟩ S (fun keep ks ps n f' w' => ∃ u b A1 c1 P1 now, f' = upds u ((2, .int .i64 ((b : Nat) : Int)) :: (3, .int .i64 (n : Int)) :: (4, .slice A1 (List.length P1) c1) :: keep) ∧ (now.length = 32) ∧ (b < n) ∧ (n ≤ 4096) ∧ (Rd w0 32 A1 P1.length (sv P1)) ∧ (All32 P1) ∧ (P1.length ≤ c1) ∧ (climbC now b n P1 = climbC (mleaf s) a0 m0 P) ∧ St w0 w' [] [some b11, some b6, some b5] [Ex (bv now).toArray 29, (ps.getD 1 fun _ => True), (ps.getD 2 fun _ => True)]) (fun n => n) (m0) (⟨_, _, _, _, _, _, upds_eq ⟨rfl, rfl, rfl, rfl, rfl, trivial⟩, length_mleaf s, by first | omega | rfl | with_reducible assumption | (simp; done) | (simp; omega), by first | omega | rfl | with_reducible assumption | (simp; done) | (simp; omega), R, hP0, by first | omega | rfl | with_reducible assumption | (simp; done) | (simp; omega), by first | omega | rfl | with_reducible assumption | (simp; done) | (simp; omega), S⟩) ?_
      rintro n f w ⟨u, b, A1, c1, P1, now, rfl, hnl, hb, hn, R1, hP, cR1, hc, S⟩
      refine s_seq (s_seq (s_plain ?_))
      refine p_val (e_move (v := .int _ _) rfl) rfl ?_
      refine p_val (e_gtr rfl rfl) rfl ?_
      refine p_nil (x_then ?_)
      refine s_cond rfl (fun hc26 => ?_) (fun hc26 => ?_)
      · refine s_skip (x_then (s_block (s_seq ?_)))
        refine s_cutK (ks := [some b11, some b6, some b5]) (ps := [Ex _ _, Ex _ _, Ex _ _]) [(2, .int _ _), (3, .int _ _), (5, .pointer _), (11, .pointer _)] ⟨rfl, rfl, rfl, rfl, trivial⟩ S (fun keep ks ps f' w' => ∃ u A2 c2 P2 now2, f' = upds u ((4, .slice A2 (List.length P2) c2) :: keep) ∧ (now2.length = 32) ∧ (Rd w0 32 A2 P2.length (sv P2)) ∧ (All32 P2) ∧ (P2.length ≤ c2) ∧ (climbC now2 (b / 2) ((n + 1) / 2) P2 = climbC now b n P1) ∧ St w0 w' [] [some b11, some b6, some b5] [Ex (bv now2).toArray 29, (ps.getD 1 fun _ => True), (ps.getD 2 fun _ => True)]) ?_ ?_
        · refine s_seq (s_plain ?_)
          refine p_val (e_move (v := .int _ _) rfl) rfl ?_
          refine p_val (e_xor1 rfl rfl (by omega)) rfl ?_
          rw [xor1_sidx]
          refine p_val (e_move (v := .int _ _) rfl) rfl ?_
          refine p_val (e_lss rfl rfl) rfl ?_
          refine p_nil (x_then ?_)
          refine s_cond rfl (fun hc30 => ?_) (fun hc30 => ?_)
          · refine s_seq (s_seq (s_plain ?_))
            refine p_val (e_move (v := .slice _ _ _) rfl) rfl ?_
            refine p_val (e_len rfl Try.underlying24) rfl ?_
            refine p_val (e_eql rfl rfl) rfl ?_
            refine p_nil (x_then ?_)
            refine s_cond rfl (fun hc33 => ?_) (fun hc33 => ?_)
            · have e0 : P1 = [] := List.eq_nil_of_length_eq_zero (by omega)
              refine s_seq (s_plain ?_)
              refine p_val (e_assign (v := .bool _) rfl) rfl ?_
              refine p_nil (x_then (s_ret (x_then_ret (x_then_ret (x_then_ret (x_in_ret (x_then_ret (x_in_ret (x_then_ret ?_)))))))))
              exact post1 (v := .bool _) Try.results38 rfl (⟨by rw [decide_eq_false (fun h => by have h4 := h.2.2.2; rw [Int.toNat_natCast, Int.toNat_natCast, ← hc, e0, climbC_nil (by omega) (by omega)] at h4; cases h4)], S.to_below⟩)
            · obtain ⟨p, P3, rfl⟩ : ∃ p P3, P1 = p :: P3 := by cases P1 with | nil => exact absurd rfl hc33 | cons p P3 => exact ⟨p, P3, rfl⟩
              have hp32 : p.length = 32 := hP p (by simp)
              refine s_skip (x_then (s_seq ?_))
              refine s_cutK (ks := [some b11, some b6, some b5]) (ps := [Ex _ _, Ex _ _, Ex _ _]) [(2, .int _ _), (3, .int _ _), (4, .slice _ _ _), (5, .pointer _), (11, .pointer _)] ⟨rfl, rfl, rfl, rfl, rfl, trivial⟩ S (fun keep ks ps f' w' => ∃ u now3, f' = upds u (keep) ∧ (now3.length = 32) ∧ (now3 = if b % 2 = 0 then mpair now p else mpair p now) ∧ St w0 w' [] [some b11, some b6, some b5] [Ex (bv now3).toArray 29, (ps.getD 1 fun _ => True), (ps.getD 2 fun _ => True)]) ?_ ?_
              · refine s_seq (s_plain ?_)
                refine p_val (e_move (v := .int _ _) rfl) rfl ?_
                refine p_val (e_rem64 rfl rfl (by omega)) rfl ?_
                refine p_val (e_eql rfl rfl) rfl ?_
                refine p_nil (x_then ?_)
                refine s_cond rfl (fun hc36 => ?_) (fun hc36 => ?_)
                · refine s_drawK (ks := [some b11, some b6, some b5]) (ps := [Ex _ _, Ex _ _, Ex _ _]) S [(true, 0), (true, 1), (true, 2), (true, 3), (false, 4)] [5] [5] mixed (by kernel_rfl) (by repeat (first | exact Calm.post _ _ _ | refine Calm.then ?_ _ | refine Calm.inB ?_ _)) (fun hS => ?_)
                  have S := S.drew
                  refine q_val (fun w hS => e_loadW 0 rfl ag29 sz29 hS rfl rfl (by first | with_reducible assumption | (rw [bv_length]; with_reducible assumption) | (rw [List.size_toArray, bv_length]; with_reducible assumption) | (simp [cat, length_join, length_mleaf, length_mpair, hr, hs]; done) | (simp [cat, length_join, length_mleaf, length_mpair, hr, hs]; omega) | rfl)) rfl hS ?_
                  refine q_val (fun w hS => e_move (v := .slice _ _ _) rfl) rfl hS ?_
                  refine q_val (fun w hS => e_ixR (hS.rdOld R1 rfl) (by decide) rfl rfl Try.underlying24 sz29 (⟨by omega, by simp⟩)) rfl hS ?_
                  refine q_val (fun w hS => e_loadRA rfl ag29 sz29 (by decide) (Rd.sumA (hS.rdOld R1 rfl) (by with_reducible assumption) (⟨by omega, by simp⟩))) rfl hS ?_
                  refine q_does (d_call Try.func85 nm85 rfl rfl (pair_calls _ 2 now p (by first | with_reducible assumption | (rw [bv_length]; with_reducible assumption) | (rw [List.size_toArray, bv_length]; with_reducible assumption) | (simp [cat, length_join, length_mleaf, length_mpair, hr, hs]; done) | (simp [cat, length_join, length_mleaf, length_mpair, hr, hs]; omega) | rfl) hp32)) rfl ?_
                  rintro _ w ⟨rfl, hB⟩
                  have S := S.below hB
                  have hS := S.pk [0, 1, 2] rfl
                  refine ⟨hS, ?_⟩
                  refine q_nil ?_
                  refine p_does (d_storeW S 0 rfl rfl (by first | exact bv_one _ | exact sv_one _ | exact iv_one _ | with_reducible assumption | (refine One.mem ?_; repeat (first | exact One.bv _ | exact One.sv _ | exact One.iv _ | exact One.nil | exact One.cat0 | refine One.cat1 ?_ ?_ | refine One.cons rfl ?_ | refine One.append ?_ ?_))) sz29 (by first | with_reducible assumption | (rw [bv_length]; with_reducible assumption) | (rw [List.size_toArray, bv_length]; with_reducible assumption) | (simp [cat, length_join, length_mleaf, length_mpair, hr, hs]; done) | (simp [cat, length_join, length_mleaf, length_mpair, hr, hs]; omega) | rfl) rfl rfl (by first | with_reducible assumption | (rw [bv_length]; with_reducible assumption) | (rw [List.size_toArray, bv_length]; with_reducible assumption) | (simp [cat, length_join, length_mleaf, length_mpair, hr, hs]; done) | (simp [cat, length_join, length_mleaf, length_mpair, hr, hs]; omega) | rfl)) rfl ?_
                  intro _ w S
                  refine p_nil ?_
                  exact x_then ⟨_, rfl, _, _, upds_eq ⟨rfl, rfl, rfl, rfl, rfl, trivial⟩, length_join _ _, by rw [if_pos (by omega)]; rfl, S⟩
                · refine s_drawK (ks := [some b11, some b6, some b5]) (ps := [Ex _ _, Ex _ _, Ex _ _]) S [(true, 0), (true, 1), (true, 2), (true, 3), (false, 4)] [5] [5] mixed (by kernel_rfl) (by repeat (first | exact Calm.post _ _ _ | refine Calm.then ?_ _ | refine Calm.inB ?_ _)) (fun hS => ?_)
                  have S := S.drew
                  refine q_val (fun w hS => e_move (v := .slice _ _ _) rfl) rfl hS ?_
                  refine q_val (fun w hS => e_ixR (hS.rdOld R1 rfl) (by decide) rfl rfl Try.underlying24 sz29 (⟨by omega, by simp⟩)) rfl hS ?_
                  refine q_val (fun w hS => e_loadRA rfl ag29 sz29 (by decide) (Rd.sumA (hS.rdOld R1 rfl) (by with_reducible assumption) (⟨by omega, by simp⟩))) rfl hS ?_
                  refine q_val (fun w hS => e_loadW 0 rfl ag29 sz29 hS rfl rfl (by first | with_reducible assumption | (rw [bv_length]; with_reducible assumption) | (rw [List.size_toArray, bv_length]; with_reducible assumption) | (simp [cat, length_join, length_mleaf, length_mpair, hr, hs]; done) | (simp [cat, length_join, length_mleaf, length_mpair, hr, hs]; omega) | rfl)) rfl hS ?_
                  refine q_does (d_call Try.func85 nm85 rfl rfl (pair_calls _ 2 p now hp32 (by first | with_reducible assumption | (rw [bv_length]; with_reducible assumption) | (rw [List.size_toArray, bv_length]; with_reducible assumption) | (simp [cat, length_join, length_mleaf, length_mpair, hr, hs]; done) | (simp [cat, length_join, length_mleaf, length_mpair, hr, hs]; omega) | rfl))) rfl ?_
                  rintro _ w ⟨rfl, hB⟩
                  have S := S.below hB
                  have hS := S.pk [0, 1, 2] rfl
                  refine ⟨hS, ?_⟩
                  refine q_nil ?_
                  refine p_does (d_storeW S 0 rfl rfl (by first | exact bv_one _ | exact sv_one _ | exact iv_one _ | with_reducible assumption | (refine One.mem ?_; repeat (first | exact One.bv _ | exact One.sv _ | exact One.iv _ | exact One.nil | exact One.cat0 | refine One.cat1 ?_ ?_ | refine One.cons rfl ?_ | refine One.append ?_ ?_))) sz29 (by first | with_reducible assumption | (rw [bv_length]; with_reducible assumption) | (rw [List.size_toArray, bv_length]; with_reducible assumption) | (simp [cat, length_join, length_mleaf, length_mpair, hr, hs]; done) | (simp [cat, length_join, length_mleaf, length_mpair, hr, hs]; omega) | rfl) rfl rfl (by first | with_reducible assumption | (rw [bv_length]; with_reducible assumption) | (rw [List.size_toArray, bv_length]; with_reducible assumption) | (simp [cat, length_join, length_mleaf, length_mpair, hr, hs]; done) | (simp [cat, length_join, length_mleaf, length_mpair, hr, hs]; omega) | rfl)) rfl ?_
                  intro _ w S
                  refine p_nil ?_
                  exact x_then ⟨_, rfl, _, _, upds_eq ⟨rfl, rfl, rfl, rfl, rfl, trivial⟩, length_join _ _, by rw [if_neg (by omega)]; rfl, S⟩
              · rintro f w ⟨u, now3, rfl, hnl3, h3, S⟩
                refine x_then (s_plain ?_)
                have R3 : Rd w0 32 (if c1 = 1 then A1 else A1.map (·.add (1 * 32))) P3.length (sv P3) := by { have h9 := Rd.drop_sv (m := 1) hP R1 (by simp) cR1; simpa using h9 }
                refine p_val (e_move (v := .slice _ _ _) rfl) rfl ?_
                refine p_val (e_sl_l (1) rfl rfl (rfl) (by simp) Try.underlying24 sz29) rfl ?_
                refine p_val (e_assign (v := .slice _ _ _) rfl) rfl ?_
                refine p_nil ?_
                exact x_then ⟨_, rfl, _, _,  _,  P3,  _, upds_eq ⟨rfl, rfl, rfl, rfl, rfl, trivial⟩, hnl3, R3, fun x hx => hP x (by simp [hx]), by simp at cR1; omega, by rw [climbC_cons (by omega) (by omega), h3], S⟩
          · refine s_skip ?_
            exact x_then ⟨_, rfl, _, _,  _,  P1,  _, upds_eq ⟨rfl, rfl, rfl, rfl, rfl, trivial⟩, hnl, R1, hP, by first | omega | rfl | with_reducible assumption | (simp; done) | (simp; omega), (climbC_no (by omega) (by omega)).symm, S⟩
        · rintro f w ⟨u, A2, c2, P2, now2, rfl, hnl2, R2, hP2, cR2, hc2, S⟩
          refine x_then (s_plain ?_)
          refine p_val (e_move (v := .int _ _) rfl) rfl ?_
          refine p_val (e_quo64 rfl rfl (by omega)) rfl ?_
          refine p_val (e_move (v := .int _ _) rfl) rfl ?_
          refine p_val (e_add64 rfl rfl (by omega)) rfl ?_
          refine p_val (e_quo64 rfl rfl (by omega)) rfl ?_
          refine p_val (e_assign (v := .int _ _) rfl) rfl ?_
          refine p_val (e_assign (v := .int _ _) rfl) rfl ?_
          refine p_nil (x_in ?_)
          refine x_round ((n + 1) / 2) _ rfl ⟨_, b / 2,  _,  _,  P2,  _, upds_eq ⟨rfl, rfl, rfl, rfl, rfl, trivial⟩, hnl2, by first | omega | rfl | with_reducible assumption | (simp; done) | (simp; omega), by first | omega | rfl | with_reducible assumption | (simp; done) | (simp; omega), R2, hP2, by first | omega | rfl | with_reducible assumption | (simp; done) | (simp; omega), by rw [hc2]; exact hc, S⟩ (by omega)
      · refine s_exit (x_then_exit (x_then_exit (x_in_same (x_then (s_seq ?_)))))
        refine s_cutK (ks := [some b11, some b6, some b5]) (ps := [Ex _ _, Ex _ _, Ex _ _]) [] trivial S (fun keep ks ps f' w' => ∃ u bb, f' = upds u ((10, .bool bb) :: keep) ∧ (bb = true ↔ (P1 = [] ∧ now = r)) ∧ St w0 w' [] ks ps) ?_ ?_
        · refine s_plain ?_
          refine p_val (e_move (v := .slice _ _ _) rfl) rfl ?_
          refine p_val (e_len rfl Try.underlying24) rfl ?_
          refine p_valB (e_eql rfl rfl) rfl (fun hg56 => ?_) (fun hg56 => ?_)
          · refine p_val (e_move (v := .bool _) rfl) rfl ?_
            refine pg_val rfl rfl rfl rfl rfl (e_loadW 0 rfl ag29 sz29 S rfl rfl (by first | with_reducible assumption | (rw [bv_length]; with_reducible assumption) | (rw [List.size_toArray, bv_length]; with_reducible assumption) | (simp [cat, length_join, length_mleaf, length_mpair, hr, hs]; done) | (simp [cat, length_join, length_mleaf, length_mpair, hr, hs]; omega) | rfl)) ?_
            refine pg_val rfl rfl rfl rfl rfl (e_loadW 2 rfl ag29 sz29 S rfl rfl (by first | with_reducible assumption | (rw [bv_length]; with_reducible assumption) | (rw [List.size_toArray, bv_length]; with_reducible assumption) | (simp [cat, length_join, length_mleaf, length_mpair, hr, hs]; done) | (simp [cat, length_join, length_mleaf, length_mpair, hr, hs]; omega) | rfl)) ?_
            refine pg_val rfl rfl rfl rfl rfl (EqT.sum eq29 gd29 rfl rfl (by first | with_reducible assumption | (rw [bv_length]; with_reducible assumption) | (rw [List.size_toArray, bv_length]; with_reducible assumption) | (simp [cat, length_join, length_mleaf, length_mpair, hr, hs]; done) | (simp [cat, length_join, length_mleaf, length_mpair, hr, hs]; omega) | rfl) (by first | with_reducible assumption | (rw [bv_length]; with_reducible assumption) | (rw [List.size_toArray, bv_length]; with_reducible assumption) | (simp [cat, length_join, length_mleaf, length_mpair, hr, hs]; done) | (simp [cat, length_join, length_mleaf, length_mpair, hr, hs]; omega) | rfl)) ?_
            refine p_val (e_pick_t rfl rfl) rfl ?_
            refine p_val (e_assign (v := .bool _) rfl) rfl ?_
            exact p_nil (x_then ⟨_, rfl, _, _, upds_eq ⟨rfl, trivial⟩, by first | (simp; done) | (constructor <;> intro h <;> simp_all) | simp_all, S⟩)
          · refine p_val (e_move (v := .bool _) rfl) rfl ?_
            refine p_no rfl rfl rfl rfl rfl ?_
            refine p_no rfl rfl rfl rfl rfl ?_
            refine p_no rfl rfl rfl rfl rfl ?_
            refine p_val (e_pick_f rfl rfl) rfl ?_
            refine p_val (e_assign (v := .bool _) rfl) rfl ?_
            exact p_nil (x_then ⟨_, rfl, _, _, upds_eq ⟨rfl, trivial⟩, by first | (simp; done) | (constructor <;> intro h <;> simp_all) | simp_all, S⟩)
        · rintro f w ⟨u, b10, rfl, hb10, S⟩
          refine x_then (s_ret ?_)
          exact post1 (v := .bool _) Try.results38 rfl (⟨by congr 1; apply Bool.eq_iff_iff.2; rw [hb10, decide_eq_true_iff]; unfold mcheck; rw [Int.toNat_natCast, Int.toNat_natCast, ← hc, climbC_end (by omega)]; cases P1 with | nil => exact ⟨fun h => ⟨by omega, by omega, by omega, by rw [h.2]⟩, fun h => ⟨rfl, Option.some.inj h.2.2.2⟩⟩ | cons p P3 => exact ⟨fun h => absurd h.1 (by simp), fun h => absurd h.2.2.2 (by simp)⟩, S.to_below⟩)
end Go.Proofs.Ytdhfiamgmokfbaa

/- What the third law's own functions compute, walked. It proves no statement by itself. -/
set_option linter.unusedSimpArgs false
set_option linter.unusedVariables false
set_option maxRecDepth 100000
set_option maxHeartbeats 1000000
namespace Go.Proofs.Ytdhfiamgmokfbaa
open Go Go.RowKit E
attribute [local irreducible] wpList seqH treeH
theorem drop_getD {l : List (List Nat)} {g : Nat} (h : g < l.length) : l.drop g = l.getD g [] :: l.drop (g + 1) := by
  rw [List.getD_eq_getElem?_getD, List.getElem?_eq_getElem h]; exact List.drop_eq_getElem_cons h
theorem mroot_one {l : List (List Nat)} (h : l.length = 1) : mroot l = mleaf (l.getD 0 []) := by
  match l, h with
  | [x], _ => unfold mroot; rw [if_neg (by simp)]; show rootI [mleaf x] = _; rw [rootI_one]; rfl
theorem half_of {n g : Nat} (h : hb n g = halfI n) (h1 : ¬ 2 * g < n) : halfI n = g := by
  rw [← h, hb, dif_neg (fun h' => h1 h'.2)]
theorem hb_next {n g : Nat} (h0 : 0 < g) (h1 : 2 * g < n) : hb n (g * 2) = hb n g := by
  rw [Nat.mul_comm]; conv => rhs; rw [hb, dif_pos ⟨h0, h1⟩]
theorem mroot_rec {l : List (List Nat)} (h : 0 < l.length) : mroot l = rec_ (l.map mleaf) := by
  unfold mroot; rw [if_neg (by omega), rootI_rec]
theorem mroot_two {l : List (List Nat)} (h : 2 ≤ l.length) : mroot l = mpair (mroot (l.take (halfI l.length))) (mroot (l.drop (halfI l.length))) := by
  have hl := half_lt h
  rw [mroot_rec (by omega), mroot_rec (l := l.take _) (by rw [List.length_take]; omega), mroot_rec (l := l.drop _) (by rw [List.length_drop]; omega), rec_two (by rw [List.length_map]; omega), List.length_map, List.map_take, List.map_drop]
def mrecP (l : List (List Nat)) (a : Nat) : List (List Nat) := recP (l.map mleaf) a
theorem mrecP_one {l : List (List Nat)} (h : l.length < 2) (a : Nat) : mrecP l a = [] := recP_one (by rw [List.length_map]; omega) a
theorem mrecP_lo {l : List (List Nat)} {a : Nat} (h : 2 ≤ l.length) (ha : a < halfI l.length) : mrecP l a = mrecP (l.take (halfI l.length)) a ++ [mroot (l.drop (halfI l.length))] := by
  have hl := half_lt h
  unfold mrecP
  rw [recP_two (by rw [List.length_map]; omega), List.length_map, if_pos ha, mroot_rec (by rw [List.length_drop]; omega), List.map_take, List.map_drop]
theorem mrecP_hi {l : List (List Nat)} {a : Nat} (h : 2 ≤ l.length) (ha : ¬ a < halfI l.length) : mrecP l a = mrecP (l.drop (halfI l.length)) (a - halfI l.length) ++ [mroot (l.take (halfI l.length))] := by
  have hl := half_lt h
  unfold mrecP
  rw [recP_two (by rw [List.length_map]; omega), List.length_map, if_neg ha, mroot_rec (by rw [List.length_take]; omega), List.map_take, List.map_drop]
theorem mrecP_all : ∀ (m : Nat) (l : List (List Nat)) (a : Nat), l.length = m → All32 (mrecP l a) := by
  intro m
  induction m using Nat.strongRecOn with
  | _ m ih =>
    intro l a hm
    by_cases h : l.length < 2
    · rw [mrecP_one h]; intro x hx; simp at hx
    · have hl := half_lt (n := l.length) (by omega)
      by_cases ha : a < halfI l.length
      · rw [mrecP_lo (by omega) ha]
        exact (ih _ (by rw [List.length_take]; omega) (l.take _) a rfl).append (All32.single (length_mroot _))
      · rw [mrecP_hi (by omega) ha]
        exact (ih _ (by rw [List.length_drop]; omega) (l.drop _) _ rfl).append (All32.single (length_mroot _))
theorem mrecP_len : ∀ (m : Nat) (l : List (List Nat)) (a : Nat), l.length = m → (mrecP l a).length ≤ l.length := by
  intro m
  induction m using Nat.strongRecOn with
  | _ m ih =>
    intro l a hm
    by_cases h : l.length < 2
    · rw [mrecP_one h]; simp
    · have hl := half_lt (n := l.length) (by omega)
      have e1 : (l.take (halfI l.length)).length = halfI l.length := by rw [List.length_take]; omega
      have e2 : (l.drop (halfI l.length)).length = l.length - halfI l.length := List.length_drop
      by_cases ha : a < halfI l.length
      · have := ih _ (by omega) (l.take _) a e1
        rw [mrecP_lo (by omega) ha, List.length_append]; simp only [List.length_cons, List.length_nil]; omega
      · have := ih _ (by omega) (l.drop _) (a - halfI l.length) e2
        rw [mrecP_hi (by omega) ha, List.length_append]; simp only [List.length_cons, List.length_nil]; omega
theorem l3few (w0 : World) (A : Option Addr) (c : Nat) (L : List (List Nat)) (hn : L.length ≤ c) :
    Ret Try.prog 37 [.slice A L.length c] w0 fun v w' => v = .slice A (L.take 40).length c ∧ Below w0.heap.size w0 w' := by
  refine enter Try.func37 rfl Try.ntmps37 (Nat.le_of_ble_eq_true rfl) ?_
  have S := St.init w0
  refine s_seq (s_plain ?_)
  refine p_val (e_assign (v := .slice _ _ _) rfl) rfl ?_
  refine p_nil (x_then (s_seq (s_seq (s_plain ?_))))
  refine p_val (e_move (v := .slice _ _ _) rfl) rfl ?_
  refine p_val (e_len rfl Try.underlying24) rfl ?_
  refine p_val (e_gtr rfl rfl) rfl ?_
  refine p_nil (x_then ?_)
  refine s_cond rfl (fun hc5 => ?_) (fun hc5 => ?_)
  · refine s_seq (s_plain ?_)
    refine p_val (e_move (v := .slice _ _ _) rfl) rfl ?_
    refine p_val (e_sl_h (40) rfl rfl (rfl) (by omega) Try.underlying24 sz29) rfl ?_
    refine p_val (e_assign (v := .slice _ _ _) rfl) rfl ?_
    refine p_nil (x_then (s_ret (x_then_ret ?_)))
    exact post1 (v := .slice _ _ _) Try.results37 rfl (⟨by rw [List.length_take]; congr 1; omega, S.to_below⟩)
  · refine s_skip (x_then (s_seq (s_plain ?_)))
    refine p_val (e_move (v := .slice _ _ _) rfl) rfl ?_
    refine p_val (e_assign (v := .slice _ _ _) rfl) rfl ?_
    refine p_nil (x_then (s_ret ?_))
    exact post1 (v := .slice _ _ _) Try.results37 rfl (⟨by rw [List.length_take]; congr 1; omega, S.to_below⟩)
theorem l3root_s (q : Nat) (ih : ∀ (w0 : World) (A : Option Addr) (n c : Nat) (L : List (List Nat)) (R : Rd w0 32 A n (sv L)) (hL : All32 L) (hl : L.length = n) (cR : n ≤ c) (hn : n ≤ 1000000) (hq : n < q), Ret Try.prog 43 [.slice A n c] w0 fun v w' => v = .agg (bv (mroot L)).toArray ∧ Below w0.heap.size w0 w') (w0 : World) (A : Option Addr) (c : Nat) (L : List (List Nat)) (R : Rd w0 32 A L.length (sv L)) (hL : All32 L) (cR : L.length ≤ c) (hn : L.length ≤ 1000000) (hq : L.length = q) :
    Ret Try.prog 43 [.slice A L.length c] w0 fun v w' => v = .agg (bv (mroot L)).toArray ∧ Below w0.heap.size w0 w' := by
  refine enter Try.func43 rfl Try.ntmps43 (Nat.le_of_ble_eq_true rfl) ?_
  have S := St.init w0
  refine s_seq (s_plain ?_)
  refine p_does (d_allocA S zvS) rfl ?_
  rintro _ w ⟨b2, rfl, S⟩
  refine p_nil (x_then (s_seq (s_seq (s_plain ?_))))
  refine p_val (e_move (v := .slice _ _ _) rfl) rfl ?_
  refine p_val (e_len rfl Try.underlying24) rfl ?_
  refine p_val (e_eql rfl rfl) rfl ?_
  refine p_nil (x_then ?_)
  refine s_cond rfl (fun hc6 => ?_) (fun hc6 => ?_)
  · refine s_seq (s_plain ?_)
    refine p_does (d_call Try.func19 nm19 rfl rfl (join_calls _ 3 none 0 [] Parts.zero (by simp [joinB]) (by simp))) rfl ?_
    rintro _ w ⟨rfl, hB⟩
    have S := S.below hB
    refine p_does (d_storeW S 0 rfl rfl (by first | exact bv_one _ | exact sv_one _ | exact iv_one _ | with_reducible assumption | (refine One.mem ?_; repeat (first | exact One.bv _ | exact One.sv _ | exact One.iv _ | exact One.nil | exact One.cat0 | refine One.cat1 ?_ ?_ | refine One.cons rfl ?_ | refine One.append ?_ ?_))) sz29 (by first | with_reducible assumption | (rw [bv_length]; with_reducible assumption) | (rw [List.size_toArray, bv_length]; with_reducible assumption) | (simp [cat, length_join, length_mroot, length_mleaf, length_zsum]; done) | (simp [cat, length_join, length_mroot, length_mleaf, length_zsum]; omega) | rfl) rfl rfl (by first | with_reducible assumption | (rw [bv_length]; with_reducible assumption) | (rw [List.size_toArray, bv_length]; with_reducible assumption) | (simp [cat, length_join, length_mroot, length_mleaf, length_zsum]; done) | (simp [cat, length_join, length_mroot, length_mleaf, length_zsum]; omega) | rfl)) rfl ?_
    intro _ w S
    refine p_nil (x_then (s_ret (x_then_ret ?_)))
    exact postC Try.results43 S 0 rfl rfl rfl ag29 sz29 (by first | with_reducible assumption | (rw [bv_length]; with_reducible assumption) | (rw [List.size_toArray, bv_length]; with_reducible assumption) | (simp [cat, length_join, length_mroot, length_mleaf, length_zsum]; done) | (simp [cat, length_join, length_mroot, length_mleaf, length_zsum]; omega) | rfl) (⟨by unfold mroot; rw [if_pos (by omega)], S.to_below⟩)
  · refine s_skip (x_then (s_seq (s_seq (s_plain ?_))))
    refine p_val (e_move (v := .slice _ _ _) rfl) rfl ?_
    refine p_val (e_len rfl Try.underlying24) rfl ?_
    refine p_val (e_eql rfl rfl) rfl ?_
    refine p_nil (x_then ?_)
    refine s_cond rfl (fun hc10 => ?_) (fun hc10 => ?_)
    · refine s_seq (s_plain ?_)
      have h0 : (L.getD (0 : Int).toNat []).length = 32 := hL.getD (by simp; omega)
      refine p_val (e_move (v := .slice _ _ _) rfl) rfl ?_
      refine p_val (e_ixR (S.rdOld R rfl) (by decide) rfl rfl Try.underlying24 sz29 (by omega)) rfl ?_
      refine p_val (e_loadRA rfl ag29 sz29 (by decide) (Rd.sumA (S.rdOld R rfl) (by with_reducible assumption) (by omega))) rfl ?_
      refine p_does (d_call Try.func45 nm45 rfl rfl (l3leaf _ _ h0)) rfl ?_
      rintro _ w ⟨rfl, hB⟩
      have S := S.below hB
      refine p_does (d_storeW S 0 rfl rfl (by first | exact bv_one _ | exact sv_one _ | exact iv_one _ | with_reducible assumption | (refine One.mem ?_; repeat (first | exact One.bv _ | exact One.sv _ | exact One.iv _ | exact One.nil | exact One.cat0 | refine One.cat1 ?_ ?_ | refine One.cons rfl ?_ | refine One.append ?_ ?_))) sz29 (by first | with_reducible assumption | (rw [bv_length]; with_reducible assumption) | (rw [List.size_toArray, bv_length]; with_reducible assumption) | (simp [cat, length_join, length_mroot, length_mleaf, length_zsum]; done) | (simp [cat, length_join, length_mroot, length_mleaf, length_zsum]; omega) | rfl) rfl rfl (by first | with_reducible assumption | (rw [bv_length]; with_reducible assumption) | (rw [List.size_toArray, bv_length]; with_reducible assumption) | (simp [cat, length_join, length_mroot, length_mleaf, length_zsum]; done) | (simp [cat, length_join, length_mroot, length_mleaf, length_zsum]; omega) | rfl)) rfl ?_
      intro _ w S
      refine p_nil (x_then (s_ret (x_then_ret ?_)))
      exact postC Try.results43 S 0 rfl rfl rfl ag29 sz29 (by first | with_reducible assumption | (rw [bv_length]; with_reducible assumption) | (rw [List.size_toArray, bv_length]; with_reducible assumption) | (simp [cat, length_join, length_mroot, length_mleaf, length_zsum]; done) | (simp [cat, length_join, length_mroot, length_mleaf, length_zsum]; omega) | rfl) (⟨by rw [mroot_one (by omega)]; rfl, S.to_below⟩)
    · refine s_skip (x_then (s_seq (s_plain ?_)))
      refine p_val (e_assign (v := .int _ _) rfl) rfl ?_
      refine p_nil (x_then (s_seq (s_block ?_)))
      refine s_loopK (α := Nat) (ks := [some b2]) (ps := [Ex _ _]) [(0, .slice _ _ _), (2, .pointer _)] ⟨rfl, rfl, trivial⟩ S (fun keep ks ps g f' w' => ∃ u, f' = upds u ((3, .int .i64 (g : Int)) :: keep) ∧ (1 ≤ g) ∧ (g < L.length) ∧ (hb L.length g = halfI L.length) ∧ St w0 w' [] [some b2] [(ps.getD 0 fun _ => True)]) (fun g => L.length - g) (1) (⟨_, upds_eq ⟨rfl, rfl, rfl, trivial⟩, by first | omega | rfl | with_reducible assumption | (simp; done) | (simp; omega), by first | omega | rfl | with_reducible assumption | (simp; done) | (simp; omega), by first | omega | rfl | with_reducible assumption | (simp; done) | (simp; omega), S⟩) ?_
      rintro g f w ⟨u, rfl, h1, hg, hk, S⟩
      refine s_seq (s_seq (s_plain ?_))
      refine p_val (e_move (v := .int _ _) rfl) rfl ?_
      refine p_val (e_mul64 rfl rfl (by omega)) rfl ?_
      refine p_val (e_move (v := .slice _ _ _) rfl) rfl ?_
      refine p_val (e_len rfl Try.underlying24) rfl ?_
      refine p_val (e_lss rfl rfl) rfl ?_
      refine p_nil (x_then ?_)
      refine s_cond rfl (fun hc19 => ?_) (fun hc19 => ?_)
      · refine s_skip (x_then (s_block (s_plain ?_)))
        refine p_val (e_move (v := .int _ _) rfl) rfl ?_
        refine p_val (e_mul64 rfl rfl (by omega)) rfl ?_
        refine p_val (e_assign (v := .int _ _) rfl) rfl ?_
        refine p_nil (x_in ?_)
        refine x_round (g * 2) _ rfl ⟨_, upds_eq ⟨rfl, rfl, rfl, trivial⟩, by first | omega | rfl | with_reducible assumption | (simp; done) | (simp; omega), by first | omega | rfl | with_reducible assumption | (simp; done) | (simp; omega), by rw [hb_next (by omega) (by omega)]; exact hk, S⟩ (by omega)
      · refine s_exit (x_then_exit (x_then_exit (x_in_same (x_then (s_seq ?_)))))
        refine s_drawZ [(true, 0), (true, 1), (true, 2), (true, 4), (true, 5), (true, 6), (false, 3), (false, 7), (false, 8)] [9] [9] (fun _ => True) mixed (by kernel_rfl) (by repeat (first | exact Calm.post _ _ _ | refine Calm.then ?_ _ | refine Calm.inB ?_ _)) ?_
        have hS : True := trivial
        have S := S.drew
        have hh : halfI L.length = g := half_of hk (by omega)
        have e1 : (L.take g).length = g := by rw [List.length_take]; omega
        have e2 : (L.drop g).length = L.length - g := List.length_drop
        refine q_val (fun w hS => e_move (v := .slice _ _ _) rfl) rfl hS ?_
        refine q_val (fun w hS => e_move (v := .int _ _) rfl) rfl hS ?_
        refine q_val (fun w hS => e_sl_h (g) rfl rfl (rfl) (by omega) Try.underlying24 sz29) rfl hS ?_
        refine q_val (fun w hS => e_move (v := .slice _ _ _) rfl) rfl hS ?_
        refine q_val (fun w hS => e_move (v := .int _ _) rfl) rfl hS ?_
        refine q_val (fun w hS => e_sl_l (g) rfl rfl (rfl) (by omega) Try.underlying24 sz29) rfl hS ?_
        refine q_does (d_call Try.func43 nm43 rfl rfl (ih _ _ _ _ _ (Rd.take_sv hL (S.rdOld R rfl) (by omega)) (hL.take g) e1 (by omega) (by omega) (by omega))) rfl ?_
        rintro _ w ⟨rfl, hB⟩
        have S := S.below hB
        have hS := trivial
        refine ⟨hS, ?_⟩
        refine q_does (d_call Try.func43 nm43 rfl rfl (ih _ _ _ _ _ (Rd.drop_sv hL (S.rdOld R rfl) (by omega) cR) (hL.drop g) e2 (by omega) (by omega) (by omega))) rfl ?_
        rintro _ w ⟨rfl, hB⟩
        have S := S.below hB
        have hS := trivial
        refine ⟨hS, ?_⟩
        refine q_does (d_call Try.func85 nm85 rfl rfl (pair_calls _ _ _ _ (by first | with_reducible assumption | (rw [bv_length]; with_reducible assumption) | (rw [List.size_toArray, bv_length]; with_reducible assumption) | (simp [cat, length_join, length_mroot, length_mleaf, length_zsum]; done) | (simp [cat, length_join, length_mroot, length_mleaf, length_zsum]; omega) | rfl) (by first | with_reducible assumption | (rw [bv_length]; with_reducible assumption) | (rw [List.size_toArray, bv_length]; with_reducible assumption) | (simp [cat, length_join, length_mroot, length_mleaf, length_zsum]; done) | (simp [cat, length_join, length_mroot, length_mleaf, length_zsum]; omega) | rfl))) rfl ?_
        rintro _ w ⟨rfl, hB⟩
        have S := S.below hB
        have hS := trivial
        refine ⟨hS, ?_⟩
        refine q_nil ?_
        refine p_does (d_storeW S 0 rfl rfl (by first | exact bv_one _ | exact sv_one _ | exact iv_one _ | with_reducible assumption | (refine One.mem ?_; repeat (first | exact One.bv _ | exact One.sv _ | exact One.iv _ | exact One.nil | exact One.cat0 | refine One.cat1 ?_ ?_ | refine One.cons rfl ?_ | refine One.append ?_ ?_))) sz29 (by first | with_reducible assumption | (rw [bv_length]; with_reducible assumption) | (rw [List.size_toArray, bv_length]; with_reducible assumption) | (simp [cat, length_join, length_mroot, length_mleaf, length_zsum]; done) | (simp [cat, length_join, length_mroot, length_mleaf, length_zsum]; omega) | rfl) rfl rfl (by first | with_reducible assumption | (rw [bv_length]; with_reducible assumption) | (rw [List.size_toArray, bv_length]; with_reducible assumption) | (simp [cat, length_join, length_mroot, length_mleaf, length_zsum]; done) | (simp [cat, length_join, length_mroot, length_mleaf, length_zsum]; omega) | rfl)) rfl ?_
        intro _ w S
        refine p_nil (x_then (s_ret ?_))
        exact postC Try.results43 S 0 rfl rfl rfl ag29 sz29 (by first | with_reducible assumption | (rw [bv_length]; with_reducible assumption) | (rw [List.size_toArray, bv_length]; with_reducible assumption) | (simp [cat, length_join, length_mroot, length_mleaf, length_zsum]; done) | (simp [cat, length_join, length_mroot, length_mleaf, length_zsum]; omega) | rfl) (⟨by rw [mroot_two (l := L) (by omega), hh]; rfl, S.to_below⟩)
theorem l3root_n : ∀ (q : Nat) (w0 : World) (A : Option Addr) (n c : Nat) (L : List (List Nat)) (R : Rd w0 32 A n (sv L)) (hL : All32 L) (hl : L.length = n) (cR : n ≤ c) (hn : n ≤ 1000000) (hq : n = q), Ret Try.prog 43 [.slice A n c] w0 fun v w' => v = .agg (bv (mroot L)).toArray ∧ Below w0.heap.size w0 w' := by
  intro q
  induction q using Nat.strongRecOn with
  | _ q ih =>
    intro w0 A n c L R hL hl cR hn hq
    subst hl
    exact l3root_s q (fun w0 A n c L R hL hl cR hn hq => ih n hq w0 A n c L R hL hl cR hn rfl) w0 A c L R hL cR hn hq
theorem l3root (w0 : World) (A : Option Addr) (n c : Nat) (L : List (List Nat)) (R : Rd w0 32 A n (sv L)) (hL : All32 L) (hl : L.length = n) (cR : n ≤ c) (hn : n ≤ 1000000) : Ret Try.prog 43 [.slice A n c] w0 fun v w' => v = .agg (bv (mroot L)).toArray ∧ Below w0.heap.size w0 w' := l3root_n n w0 A n c L R hL hl cR hn rfl
theorem l3path_s (q : Nat) (ih : ∀ (w0 : World) (ai : Int) (a : Nat) (hai : ai = (a : Int)) (A : Option Addr) (n c : Nat) (L : List (List Nat)) (R : Rd w0 32 A n (sv L)) (hL : All32 L) (hl : L.length = n) (cR : n ≤ c) (hn : n ≤ 1000000) (ha : a < n) (hq : n < q), Ret Try.prog 47 [.slice A n c, .int .i64 ai] w0 fun v w' => ∃ k c2, v = .slice (at_ k) (mrecP L a).length c2 ∧ St w0 w' [] [k] [Rw 29 32 (mrecP L a).length c2 (sv (mrecP L a))]) (w0 : World) (a : Nat) (A : Option Addr) (c : Nat) (L : List (List Nat)) (R : Rd w0 32 A L.length (sv L)) (hL : All32 L) (cR : L.length ≤ c) (hn : L.length ≤ 1000000) (ha : a < L.length) (hq : L.length = q) :
    Ret Try.prog 47 [.slice A L.length c, .int .i64 (a : Int)] w0 fun v w' => ∃ k c2, v = .slice (at_ k) (mrecP L a).length c2 ∧ St w0 w' [] [k] [Rw 29 32 (mrecP L a).length c2 (sv (mrecP L a))] := by
  refine enter Try.func47 rfl Try.ntmps47 (Nat.le_of_ble_eq_true rfl) ?_
  have S := St.init w0
  refine s_seq (s_plain ?_)
  refine p_val (e_assign (v := .slice _ _ _) rfl) rfl ?_
  refine p_nil (x_then (s_seq (s_seq (s_plain ?_))))
  refine p_val (e_move (v := .slice _ _ _) rfl) rfl ?_
  refine p_val (e_len rfl Try.underlying24) rfl ?_
  refine p_val (e_lss rfl rfl) rfl ?_
  refine p_nil (x_then ?_)
  refine s_cond rfl (fun hc8 => ?_) (fun hc8 => ?_)
  · refine s_seq (s_plain ?_)
    refine p_val (e_assign (v := .slice _ _ _) rfl) rfl ?_
    refine p_nil (x_then (s_ret (x_then_ret ?_)))
    exact post1 (v := .slice _ _ _) Try.results47 rfl (by rw [mrecP_one (by omega)]; exact ⟨none, 0, rfl, S.none_.addNil 29 32⟩)
  · refine s_skip (x_then (s_seq (s_plain ?_)))
    refine p_val (e_assign (v := .int _ _) rfl) rfl ?_
    refine p_nil (x_then (s_seq (s_block ?_)))
    refine s_loopK (α := Nat) (ks := []) (ps := []) [(0, .slice _ _ _), (1, .int _ _)] ⟨rfl, rfl, trivial⟩ S (fun keep ks ps g f' w' => ∃ u, f' = upds u ((5, .int .i64 (g : Int)) :: keep) ∧ (1 ≤ g) ∧ (g < L.length) ∧ (hb L.length g = halfI L.length) ∧ St w0 w' [] [] []) (fun g => L.length - g) (1) (⟨_, upds_eq ⟨rfl, rfl, rfl, trivial⟩, by first | omega | rfl | with_reducible assumption | (simp; done) | (simp; omega), by first | omega | rfl | with_reducible assumption | (simp; done) | (simp; omega), by first | omega | rfl | with_reducible assumption | (simp; done) | (simp; omega), S⟩) ?_
    rintro g f w ⟨u, rfl, h1, hg, hk, S⟩
    refine s_seq (s_seq (s_plain ?_))
    refine p_val (e_move (v := .int _ _) rfl) rfl ?_
    refine p_val (e_mul64 rfl rfl (by omega)) rfl ?_
    refine p_val (e_move (v := .slice _ _ _) rfl) rfl ?_
    refine p_val (e_len rfl Try.underlying24) rfl ?_
    refine p_val (e_lss rfl rfl) rfl ?_
    refine p_nil (x_then ?_)
    refine s_cond rfl (fun hc13 => ?_) (fun hc13 => ?_)
    · refine s_skip (x_then (s_block (s_plain ?_)))
      refine p_val (e_move (v := .int _ _) rfl) rfl ?_
      refine p_val (e_mul64 rfl rfl (by omega)) rfl ?_
      refine p_val (e_assign (v := .int _ _) rfl) rfl ?_
      refine p_nil (x_in ?_)
      refine x_round (g * 2) _ rfl ⟨_, upds_eq ⟨rfl, rfl, rfl, trivial⟩, by first | omega | rfl | with_reducible assumption | (simp; done) | (simp; omega), by first | omega | rfl | with_reducible assumption | (simp; done) | (simp; omega), by rw [hb_next (by omega) (by omega)]; exact hk, S⟩ (by omega)
    · refine s_exit (x_then_exit (x_then_exit (x_in_same (x_then (s_seq (s_seq (s_plain ?_)))))))
      have hh : halfI L.length = g := half_of hk (by omega)
      have e1 : (L.take g).length = g := by rw [List.length_take]; omega
      have e2 : (L.drop g).length = L.length - g := List.length_drop
      refine p_val (e_move (v := .int _ _) rfl) rfl ?_
      refine p_val (e_move (v := .int _ _) rfl) rfl ?_
      refine p_val (e_lss rfl rfl) rfl ?_
      refine p_nil (x_then ?_)
      refine s_cond rfl (fun hc18 => ?_) (fun hc18 => ?_)
      · refine s_seq ?_
        refine s_drawZ [(true, 0), (true, 1), (true, 2), (true, 3), (true, 5), (true, 6), (true, 7), (false, 4), (false, 8), (false, 9), (false, 10)] [11] [11] (fun _ => True) mixed (by kernel_rfl) (by repeat (first | exact Calm.post _ _ _ | refine Calm.then ?_ _ | refine Calm.inB ?_ _)) ?_
        have hS : True := trivial
        have S := S.drew
        refine q_val (fun w hS => e_move (v := .slice _ _ _) rfl) rfl hS ?_
        refine q_val (fun w hS => e_move (v := .int _ _) rfl) rfl hS ?_
        refine q_val (fun w hS => e_sl_h (g) rfl rfl (rfl) (by omega) Try.underlying24 sz29) rfl hS ?_
        refine q_val (fun w hS => e_move (v := .int _ _) rfl) rfl hS ?_
        refine q_val (fun w hS => e_move (v := .slice _ _ _) rfl) rfl hS ?_
        refine q_val (fun w hS => e_move (v := .int _ _) rfl) rfl hS ?_
        refine q_val (fun w hS => e_sl_l (g) rfl rfl (rfl) (by omega) Try.underlying24 sz29) rfl hS ?_
        have hpl : (mrecP (L.take g) a).length ≤ 1000000 := by { have := mrecP_len _ (L.take g) a rfl; omega }
        refine q_does (d_call Try.func47 nm47 rfl rfl (ih _ _ a rfl _ _ _ _ (Rd.take_sv hL (S.rdOld R rfl) (by omega)) (hL.take g) e1 (by omega) (by omega) (by omega) (by omega))) rfl ?_
        rintro _ w ⟨k23, c23, rfl, T⟩
        have S := S.merge T rfl
        have hS := trivial
        refine ⟨hS, ?_⟩
        refine q_does (d_call Try.func43 nm43 rfl rfl (l3root _ _ _ _ _ (Rd.drop_sv hL (S.rdOld R rfl) (by omega) cR) (hL.drop g) e2 (by omega) (by omega))) rfl ?_
        rintro _ w ⟨rfl, hB⟩
        have S := S.below hB
        have hS := trivial
        refine ⟨hS, ?_⟩
        refine q_does (d_litS S Try.underlying24 sz29 zv29 rfl (L := [_]) rfl rfl (by intro x hx; simp at hx; simp [hx, length_join, length_mroot, length_mleaf, length_zsum]) (by decide)) rfl ?_
        rintro _ w ⟨b28, rfl, S⟩
        have hS := trivial
        refine ⟨hS, ?_⟩
        refine q_does (d_append S 1 rfl rfl Try.underlying24 el29 rfl rfl (S.rdRw 0 rfl rfl) (by first | exact bv_one _ | exact sv_one _ | exact iv_one _ | with_reducible assumption | (refine One.mem ?_; repeat (first | exact One.bv _ | exact One.sv _ | exact One.iv _ | exact One.nil | exact One.cat0 | refine One.cat1 ?_ ?_ | refine One.cons rfl ?_ | refine One.append ?_ ?_))) (by first | omega | (simp only [List.length_append, List.length_cons, List.length_nil, bv_length, length_join, length_mroot, length_mleaf, length_zsum]; omega) | (simp [cat, length_join, length_mroot, length_mleaf, length_zsum]; omega)) (by unfold maxLen; first | omega | (simp only [List.length_append, List.length_cons, List.length_nil, bv_length, length_join, length_mroot, length_mleaf, length_zsum]; omega))) rfl ?_
        rintro _ w ⟨k29, c29, rfl, S⟩
        have hS := trivial
        refine ⟨hS, ?_⟩
        refine q_nil ?_
        refine p_val (e_assign (v := .slice _ _ _) rfl) rfl ?_
        refine p_nil (x_then (s_ret (x_then_ret ?_)))
        exact post1 (v := .slice _ _ _) Try.results47 rfl (by rw [mrecP_lo (l := L) (a := a) (by omega) (by omega), hh]; exact ⟨_, _, by rw [List.length_append]; rfl, by rw [List.length_append, sv_append]; exact S.pk [1] rfl⟩)
      · refine s_skip (x_then (s_seq ?_))
        refine s_drawZ [(true, 0), (true, 1), (true, 2), (true, 3), (true, 4), (true, 5), (true, 7), (true, 8), (true, 9), (false, 6), (false, 10), (false, 11), (false, 12)] [13] [13] (fun _ => True) mixed (by kernel_rfl) (by repeat (first | exact Calm.post _ _ _ | refine Calm.then ?_ _ | refine Calm.inB ?_ _)) ?_
        have hS : True := trivial
        have S := S.drew
        refine q_val (fun w hS => e_move (v := .slice _ _ _) rfl) rfl hS ?_
        refine q_val (fun w hS => e_move (v := .int _ _) rfl) rfl hS ?_
        refine q_val (fun w hS => e_sl_l (g) rfl rfl (rfl) (by omega) Try.underlying24 sz29) rfl hS ?_
        refine q_val (fun w hS => e_move (v := .int _ _) rfl) rfl hS ?_
        refine q_val (fun w hS => e_move (v := .int _ _) rfl) rfl hS ?_
        refine q_val (fun w hS => e_sub64 rfl rfl (by omega)) rfl hS ?_
        refine q_val (fun w hS => e_move (v := .slice _ _ _) rfl) rfl hS ?_
        refine q_val (fun w hS => e_move (v := .int _ _) rfl) rfl hS ?_
        refine q_val (fun w hS => e_sl_h (g) rfl rfl (rfl) (by omega) Try.underlying24 sz29) rfl hS ?_
        have hpl : (mrecP (L.drop g) (a - g)).length ≤ 1000000 := by { have := mrecP_len _ (L.drop g) (a - g) rfl; omega }
        refine q_does (d_call Try.func47 nm47 rfl rfl (ih _ _ (a - g) (by omega) _ _ _ _ (Rd.drop_sv hL (S.rdOld R rfl) (by omega) cR) (hL.drop g) e2 (by omega) (by omega) (by omega) (by omega))) rfl ?_
        rintro _ w ⟨k36, c36, rfl, T⟩
        have S := S.merge T rfl
        have hS := trivial
        refine ⟨hS, ?_⟩
        refine q_does (d_call Try.func43 nm43 rfl rfl (l3root _ _ _ _ _ (Rd.take_sv hL (S.rdOld R rfl) (by omega)) (hL.take g) e1 (by omega) (by omega))) rfl ?_
        rintro _ w ⟨rfl, hB⟩
        have S := S.below hB
        have hS := trivial
        refine ⟨hS, ?_⟩
        refine q_does (d_litS S Try.underlying24 sz29 zv29 rfl (L := [_]) rfl rfl (by intro x hx; simp at hx; simp [hx, length_join, length_mroot, length_mleaf, length_zsum]) (by decide)) rfl ?_
        rintro _ w ⟨b41, rfl, S⟩
        have hS := trivial
        refine ⟨hS, ?_⟩
        refine q_does (d_append S 1 rfl rfl Try.underlying24 el29 rfl rfl (S.rdRw 0 rfl rfl) (by first | exact bv_one _ | exact sv_one _ | exact iv_one _ | with_reducible assumption | (refine One.mem ?_; repeat (first | exact One.bv _ | exact One.sv _ | exact One.iv _ | exact One.nil | exact One.cat0 | refine One.cat1 ?_ ?_ | refine One.cons rfl ?_ | refine One.append ?_ ?_))) (by first | omega | (simp only [List.length_append, List.length_cons, List.length_nil, bv_length, length_join, length_mroot, length_mleaf, length_zsum]; omega) | (simp [cat, length_join, length_mroot, length_mleaf, length_zsum]; omega)) (by unfold maxLen; first | omega | (simp only [List.length_append, List.length_cons, List.length_nil, bv_length, length_join, length_mroot, length_mleaf, length_zsum]; omega))) rfl ?_
        rintro _ w ⟨k42, c42, rfl, S⟩
        have hS := trivial
        refine ⟨hS, ?_⟩
        refine q_nil ?_
        refine p_val (e_assign (v := .slice _ _ _) rfl) rfl ?_
        refine p_nil (x_then (s_ret ?_))
        exact post1 (v := .slice _ _ _) Try.results47 rfl (by rw [mrecP_hi (l := L) (a := a) (by omega) (by omega), hh]; exact ⟨_, _, by rw [List.length_append]; rfl, by rw [List.length_append, sv_append]; exact S.pk [1] rfl⟩)
theorem l3path_n : ∀ (q : Nat) (w0 : World) (ai : Int) (a : Nat) (hai : ai = (a : Int)) (A : Option Addr) (n c : Nat) (L : List (List Nat)) (R : Rd w0 32 A n (sv L)) (hL : All32 L) (hl : L.length = n) (cR : n ≤ c) (hn : n ≤ 1000000) (ha : a < n) (hq : n = q), Ret Try.prog 47 [.slice A n c, .int .i64 ai] w0 fun v w' => ∃ k c2, v = .slice (at_ k) (mrecP L a).length c2 ∧ St w0 w' [] [k] [Rw 29 32 (mrecP L a).length c2 (sv (mrecP L a))] := by
  intro q
  induction q using Nat.strongRecOn with
  | _ q ih =>
    intro w0 ai a hai A n c L R hL hl cR hn ha hq
    subst hl
    subst hai
    exact l3path_s q (fun w0 ai a hai A n c L R hL hl cR hn ha hq => ih n hq w0 ai a hai A n c L R hL hl cR hn ha rfl) w0 a A c L R hL cR hn ha hq
theorem l3path (w0 : World) (ai : Int) (a : Nat) (hai : ai = (a : Int)) (A : Option Addr) (n c : Nat) (L : List (List Nat)) (R : Rd w0 32 A n (sv L)) (hL : All32 L) (hl : L.length = n) (cR : n ≤ c) (hn : n ≤ 1000000) (ha : a < n) : Ret Try.prog 47 [.slice A n c, .int .i64 ai] w0 fun v w' => ∃ k c2, v = .slice (at_ k) (mrecP L a).length c2 ∧ St w0 w' [] [k] [Rw 29 32 (mrecP L a).length c2 (sv (mrecP L a))] := l3path_n n w0 ai a hai A n c L R hL hl cR hn ha rfl
theorem l3same (w0 : World) (A A2 : Option Addr) (c c2 : Nat) (L M : List (List Nat)) (R : Rd w0 32 A L.length (sv L)) (hL : All32 L) (R2 : Rd w0 32 A2 M.length (sv M)) (hM : All32 M) (hn : L.length ≤ 1000000) :
    Ret Try.prog 46 [.slice A L.length c, .slice A2 M.length c2] w0 fun v w' => v = .bool (decide (L = M)) ∧ Below w0.heap.size w0 w' := by
  refine enter Try.func46 rfl Try.ntmps46 (Nat.le_of_ble_eq_true rfl) ?_
  have S := St.init w0
  refine s_seq (s_plain ?_)
  refine p_val (e_assign (v := .bool _) rfl) rfl ?_
  refine p_nil (x_then (s_seq (s_seq (s_plain ?_))))
  refine p_val (e_move (v := .slice _ _ _) rfl) rfl ?_
  refine p_val (e_len rfl Try.underlying24) rfl ?_
  refine p_val (e_move (v := .slice _ _ _) rfl) rfl ?_
  refine p_val (e_len rfl Try.underlying24) rfl ?_
  refine p_val (e_neq rfl rfl) rfl ?_
  refine p_nil (x_then ?_)
  refine s_cond rfl (fun hc10 => ?_) (fun hc10 => ?_)
  · refine s_seq (s_plain ?_)
    refine p_val (e_assign (v := .bool _) rfl) rfl ?_
    refine p_nil (x_then (s_ret (x_then_ret ?_)))
    exact post1 (v := .bool _) Try.results46 rfl (⟨by rw [decide_eq_false (fun h => by rw [h] at hc10; omega)], S.to_below⟩)
  · refine s_skip (x_then (s_seq (s_seq (s_plain ?_))))
    refine p_val (e_assign (v := .int _ _) rfl) rfl ?_
    refine p_nil (x_then (s_block ?_))
    refine s_loopK (α := Nat) (ks := []) (ps := []) [(0, .slice _ _ _), (1, .slice _ _ _)] ⟨rfl, rfl, trivial⟩ S (fun keep ks ps g f' w' => ∃ u, f' = upds u ((5, .int .i64 (g : Int)) :: keep) ∧ (g ≤ L.length) ∧ (L.take g = M.take g) ∧ St w0 w' [] [] []) (fun g => L.length - g) (0) (⟨_, upds_eq ⟨rfl, rfl, rfl, trivial⟩, by first | omega | rfl | with_reducible assumption | (simp; done) | (simp; omega), by first | omega | rfl | with_reducible assumption | (simp; done) | (simp; omega), S⟩) ?_
    rintro g f w ⟨u, rfl, hg, he, S⟩
    refine s_seq (s_seq (s_plain ?_))
    refine p_val (e_move (v := .int _ _) rfl) rfl ?_
    refine p_val (e_move (v := .slice _ _ _) rfl) rfl ?_
    refine p_val (e_len rfl Try.underlying24) rfl ?_
    refine p_val (e_lss rfl rfl) rfl ?_
    refine p_nil (x_then ?_)
    refine s_cond rfl (fun hc14 => ?_) (fun hc14 => ?_)
    · refine s_skip (x_then (s_seq (s_block (s_seq ?_))))
      refine s_drawK (ks := []) (ps := []) S [(true, 0), (true, 1), (true, 2), (true, 3), (true, 4), (true, 5), (true, 6), (true, 7), (true, 8)] [] [] mixed (by kernel_rfl) (by repeat (first | exact Calm.post _ _ _ | refine Calm.then ?_ _ | refine Calm.inB ?_ _)) (fun hS => ?_)
      have S := S.drew
      have hg1 : (L.getD (g : Int).toNat []).length = 32 := hL.getD (by omega)
      have hg2 : (M.getD (g : Int).toNat []).length = 32 := hM.getD (by omega)
      refine q_val (fun w hS => e_move (v := .slice _ _ _) rfl) rfl hS ?_
      refine q_val (fun w hS => e_move (v := .int _ _) rfl) rfl hS ?_
      refine q_val (fun w hS => e_ixR (hS.rdOld R rfl) (by decide) rfl rfl Try.underlying24 sz29 (by omega)) rfl hS ?_
      refine q_val (fun w hS => e_loadRA rfl ag29 sz29 (by decide) (Rd.sumA (hS.rdOld R rfl) (by with_reducible assumption) (by omega))) rfl hS ?_
      refine q_val (fun w hS => e_move (v := .slice _ _ _) rfl) rfl hS ?_
      refine q_val (fun w hS => e_move (v := .int _ _) rfl) rfl hS ?_
      refine q_val (fun w hS => e_ixR (hS.rdOld R2 rfl) (by decide) rfl rfl Try.underlying24 sz29 (by omega)) rfl hS ?_
      refine q_val (fun w hS => e_loadRA rfl ag29 sz29 (by decide) (Rd.sumA (hS.rdOld R2 rfl) (by with_reducible assumption) (by omega))) rfl hS ?_
      refine q_val (fun w hS => EqT.sumN eq29 gd29 rfl rfl (by first | with_reducible assumption | (rw [bv_length]; with_reducible assumption) | (rw [List.size_toArray, bv_length]; with_reducible assumption) | (simp [cat, hg1, hg2]; done) | (simp [cat, hg1, hg2]; omega) | rfl) (by first | with_reducible assumption | (rw [bv_length]; with_reducible assumption) | (rw [List.size_toArray, bv_length]; with_reducible assumption) | (simp [cat, hg1, hg2]; done) | (simp [cat, hg1, hg2]; omega) | rfl)) rfl hS ?_
      refine q_nil (p_nil (x_then ?_))
      refine s_cond rfl (fun hc25 => ?_) (fun hc25 => ?_)
      · refine s_seq (s_plain ?_)
        refine p_val (e_assign (v := .bool _) rfl) rfl ?_
        refine p_nil (x_then (s_ret (x_in_ret (x_then_ret (x_then_ret (x_in_ret (x_then_ret ?_)))))))
        exact post1 (v := .bool _) Try.results46 rfl (⟨by rw [decide_eq_false (fun h => by subst h; simp at hc25)], S.to_below⟩)
      · refine s_skip (x_in (x_then (s_plain ?_)))
        refine p_val (e_move (v := .int _ _) rfl) rfl ?_
        refine p_val (e_add64 rfl rfl (by omega)) rfl ?_
        refine p_val (e_assign (v := .int _ _) rfl) rfl ?_
        refine p_nil ?_
        refine x_round (g + 1) _ rfl ⟨_, upds_eq ⟨rfl, rfl, rfl, trivial⟩, by first | omega | rfl | with_reducible assumption | (simp; done) | (simp; omega), by rw [take_getD (by omega), take_getD (by omega), he, show L.getD g [] = M.getD g [] by simpa [Int.toNat_natCast] using hc25], S⟩ (by omega)
    · refine s_exit (x_then_exit (x_then_exit (x_in_same (x_then (s_seq (s_plain ?_))))))
      refine p_val (e_assign (v := .bool _) rfl) rfl ?_
      refine p_nil (x_then (s_ret ?_))
      exact post1 (v := .bool _) Try.results46 rfl (⟨by rw [decide_eq_true (by rw [← List.take_of_length_le (l := L) (show L.length ≤ g by omega), he, List.take_of_length_le (by omega)])], S.to_below⟩)
theorem l3climb (w0 : World) (s : List Nat) (a m : Int) (A : Option Addr) (c : Nat) (P : List (List Nat)) (hs : s.length = 32) (R : Rd w0 32 A P.length (sv P)) (hP : All32 P) (hpn : P.length ≤ 1000000) (ha : 0 ≤ a) (ham : a < m) (hm : m ≤ 4096) :
    Ret Try.prog 40 [.agg (bv s).toArray, .int .i64 a, .int .i64 m, .slice A P.length c] w0 fun v w' => ∃ x b, v = .tuple #[.agg (bv x).toArray, .bool b] ∧ x.length = 32 ∧ climbC (mleaf s) a.toNat m.toNat P = (if b = true then some x else none) ∧ Below w0.heap.size w0 w' := by
  refine enter Try.func40 rfl Try.ntmps40 (Nat.le_of_ble_eq_true rfl) ?_
  have S := St.init w0
  refine s_seq (s_plain ?_)
  refine p_does (d_boxA S rfl) rfl ?_
  rintro _ w ⟨b4, rfl, S⟩
  refine p_does (d_allocA S zvS) rfl ?_
  rintro _ w ⟨b8, rfl, S⟩
  refine p_val (e_assign (v := .bool _) rfl) rfl ?_
  refine p_nil (x_then (s_seq (s_plain ?_)))
  refine p_val (e_loadW 1 rfl ag29 sz29 S rfl rfl (by first | with_reducible assumption | (rw [bv_length]; with_reducible assumption) | (rw [List.size_toArray, bv_length]; with_reducible assumption) | (simp [cat, length_join, length_mleaf, length_mpair, hs, length_zsum]; done) | (simp [cat, length_join, length_mleaf, length_mpair, hs, length_zsum]; omega) | rfl)) rfl ?_
  refine p_does (d_call Try.func45 nm45 rfl rfl (l3leaf _ _ (by first | with_reducible assumption | (rw [bv_length]; with_reducible assumption) | (rw [List.size_toArray, bv_length]; with_reducible assumption) | (simp [cat, length_join, length_mleaf, length_mpair, hs, length_zsum]; done) | (simp [cat, length_join, length_mleaf, length_mpair, hs, length_zsum]; omega) | rfl))) rfl ?_
  rintro _ w ⟨rfl, hB⟩
  have S := S.below hB
  refine p_does (d_allocA S zvS) rfl ?_
  rintro _ w ⟨b10, rfl, S⟩
  refine p_does (d_storeW S 0 rfl rfl (by first | exact bv_one _ | exact sv_one _ | exact iv_one _ | with_reducible assumption | (refine One.mem ?_; repeat (first | exact One.bv _ | exact One.sv _ | exact One.iv _ | exact One.nil | exact One.cat0 | refine One.cat1 ?_ ?_ | refine One.cons rfl ?_ | refine One.append ?_ ?_))) sz29 (by first | with_reducible assumption | (rw [bv_length]; with_reducible assumption) | (rw [List.size_toArray, bv_length]; with_reducible assumption) | (simp [cat, length_join, length_mleaf, length_mpair, hs, length_zsum]; done) | (simp [cat, length_join, length_mleaf, length_mpair, hs, length_zsum]; omega) | rfl) rfl rfl (by first | with_reducible assumption | (rw [bv_length]; with_reducible assumption) | (rw [List.size_toArray, bv_length]; with_reducible assumption) | (simp [cat, length_join, length_mleaf, length_mpair, hs, length_zsum]; done) | (simp [cat, length_join, length_mleaf, length_mpair, hs, length_zsum]; omega) | rfl)) rfl ?_
  intro _ w S
  refine p_nil (x_then (s_seq (s_plain ?_)))
  refine p_val (e_assign (v := .int _ _) rfl) rfl ?_
  refine p_nil (x_then (s_seq (s_seq (s_plain ?_))))
  refine p_val (e_assign (v := .int _ _) rfl) rfl ?_
  refine p_nil (x_then (s_block ?_))
  obtain ⟨a0, rfl⟩ : ∃ b0 : Nat, a = (b0 : Int) := ⟨a.toNat, by omega⟩
  obtain ⟨m0, rfl⟩ : ∃ b0 : Nat, m = (b0 : Int) := ⟨m.toNat, by omega⟩
  refine s_loopK (α := Nat) (ks := [some b10, some b8, some b4]) (ps := [Ex _ _, Ex _ _, Ex _ _]) [(3, .slice _ _ _), (8, .pointer _), (10, .pointer _)] ⟨rfl, rfl, rfl, trivial⟩ S (fun keep ks ps g f' w' => ∃ u b n k now, f' = upds u ((1, .int .i64 ((b : Nat) : Int)) :: (2, .int .i64 ((n : Nat) : Int)) :: (11, .int .i64 ((k : Nat) : Int)) :: (12, .int .i64 (g : Int)) :: keep) ∧ (now.length = 32) ∧ (g ≤ 12) ∧ (b < n) ∧ (n ≤ 2 ^ (12 - g)) ∧ (n ≤ 4096) ∧ (k ≤ P.length) ∧ (climbC now b n (P.drop k) = climbC (mleaf s) a0 m0 P) ∧ St w0 w' [] [some b10, some b8, some b4] [Ex (bv now).toArray 29, Ex (bv zsum).toArray 29, (ps.getD 2 fun _ => True)]) (fun g => 13 - g) (0) (⟨_, a0,  m0,  0,  _, upds_eq ⟨rfl, rfl, rfl, rfl, rfl, rfl, rfl, trivial⟩, length_mleaf s, by first | omega | rfl | with_reducible assumption | (simp; done) | (simp; omega), by first | omega | rfl | with_reducible assumption | (simp; done) | (simp; omega), by first | omega | rfl | with_reducible assumption | (simp; done) | (simp; omega), by first | omega | rfl | with_reducible assumption | (simp; done) | (simp; omega), by first | omega | rfl | with_reducible assumption | (simp; done) | (simp; omega), by first | omega | rfl | with_reducible assumption | (simp; done) | (simp; omega), S⟩) ?_
  rintro g f w ⟨u, b, n, k, now, rfl, hnl, hg, hb, hn, hn2, hk, hc, S⟩
  refine s_seq (s_seq ?_)
  refine s_cutK (ks := [some b10, some b8, some b4]) (ps := [Ex _ _, Ex _ _, Ex _ _]) [(1, .int _ _), (2, .int _ _), (3, .slice _ _ _), (8, .pointer _), (10, .pointer _), (11, .int _ _), (12, .int _ _)] ⟨rfl, rfl, rfl, rfl, rfl, rfl, rfl, trivial⟩ S (fun keep ks ps f' w' => ∃ u bb, f' = upds u ((21, .bool bb) :: keep) ∧ (bb = true ↔ (((g : Int) < (13 : Int)) ∧ ((1 : Int) < ((n : Nat) : Int)))) ∧ St w0 w' [] ks ps) ?_ ?_
  · refine s_plain ?_
    refine p_val (e_move (v := .int _ _) rfl) rfl ?_
    refine p_valB (e_lss rfl rfl) rfl (fun hg17 => ?_) (fun hg17 => ?_)
    · refine p_val (e_move (v := .bool _) rfl) rfl ?_
      refine pg_val rfl rfl rfl rfl rfl (e_move (v := .int _ _) rfl) ?_
      refine pg_val rfl rfl rfl rfl rfl (e_gtr rfl rfl) ?_
      refine p_val (e_pick_t rfl rfl) rfl ?_
      exact p_nil (x_then ⟨_, rfl, _, _, upds_eq ⟨rfl, rfl, rfl, rfl, rfl, rfl, rfl, rfl, trivial⟩, by first | (simp only [decide_eq_true_eq, eq_self, true_iff, iff_true, iff_false, Bool.false_eq_true, false_iff, ge_iff_le, gt_iff_lt, true_and, and_true, false_and, and_false, true_or, or_true, false_or, or_false, not_true_eq_false, not_false_eq_true]; omega) | simp | omega | simp_all, S⟩)
    · refine p_val (e_move (v := .bool _) rfl) rfl ?_
      refine p_no rfl rfl rfl rfl rfl ?_
      refine p_no rfl rfl rfl rfl rfl ?_
      refine p_val (e_pick_f rfl rfl) rfl ?_
      exact p_nil (x_then ⟨_, rfl, _, _, upds_eq ⟨rfl, rfl, rfl, rfl, rfl, rfl, rfl, rfl, trivial⟩, by first | (simp only [decide_eq_true_eq, eq_self, true_iff, iff_true, iff_false, Bool.false_eq_true, false_iff, ge_iff_le, gt_iff_lt, true_and, and_true, false_and, and_false, true_or, or_true, false_or, or_false, not_true_eq_false, not_false_eq_true]; omega) | simp | omega | simp_all, S⟩)
  · rintro f w ⟨u, b21, rfl, hb21, S⟩
    refine x_then ?_
    refine s_condb rfl (fun hc21 => ?_) (fun hc21 => ?_)
    · have hp21 : (((g : Int) < (13 : Int)) ∧ ((1 : Int) < ((n : Nat) : Int))) := hb21.1 hc21
      refine s_skip (x_then (s_seq (s_block (s_seq (s_plain ?_)))))
      have hg11 : g < 12 := by { by_cases h9 : g < 12; { exact h9 }; { rw [show 12 - g = 0 by omega] at hn; omega } }
      refine p_val (e_move (v := .int _ _) rfl) rfl ?_
      refine p_val (e_add64 rfl rfl (by omega)) rfl ?_
      refine p_val (e_move (v := .int _ _) rfl) rfl ?_
      refine p_val (e_rem64 rfl rfl (by omega)) rfl ?_
      refine p_val (e_mul64 rfl rfl (by omega)) rfl ?_
      refine p_val (e_sub64 rfl rfl (by omega)) rfl ?_
      refine p_val (e_assign (v := .int _ _) rfl) rfl ?_
      refine p_nil (x_then (s_seq ?_))
      refine s_cutK (ks := [some b10, some b8, some b4]) (ps := [Ex _ _, Ex _ _, Ex _ _]) [(1, .int _ _), (2, .int _ _), (3, .slice _ _ _), (8, .pointer _), (10, .pointer _), (12, .int _ _)] ⟨rfl, rfl, rfl, rfl, rfl, rfl, trivial⟩ S (fun keep ks ps f' w' => ∃ u k2 now2, f' = upds u ((11, .int .i64 ((k2 : Nat) : Int)) :: keep) ∧ (now2.length = 32) ∧ (k2 ≤ P.length) ∧ (climbC now2 (b / 2) ((n + 1) / 2) (P.drop k2) = climbC now b n (P.drop k)) ∧ St w0 w' [] [some b10, some b8, some b4] [Ex (bv now2).toArray 29, Ex (bv zsum).toArray 29, (ps.getD 2 fun _ => True)]) ?_ ?_
      · refine s_seq (s_plain ?_)
        refine p_val (e_move (v := .int _ _) rfl) rfl ?_
        refine p_val (e_move (v := .int _ _) rfl) rfl ?_
        refine p_val (e_lss rfl rfl) rfl ?_
        refine p_nil (x_then ?_)
        refine s_cond rfl (fun hc32 => ?_) (fun hc32 => ?_)
        · refine s_seq (s_seq (s_plain ?_))
          refine p_val (e_move (v := .int _ _) rfl) rfl ?_
          refine p_val (e_move (v := .slice _ _ _) rfl) rfl ?_
          refine p_val (e_len rfl Try.underlying24) rfl ?_
          refine p_val (e_geq rfl rfl) rfl ?_
          refine p_nil (x_then ?_)
          refine s_cond rfl (fun hc36 => ?_) (fun hc36 => ?_)
          · refine s_seq (s_plain ?_)
            refine p_val (e_loadW 0 rfl ag29 sz29 S rfl rfl (by first | with_reducible assumption | (rw [bv_length]; with_reducible assumption) | (rw [List.size_toArray, bv_length]; with_reducible assumption) | (simp [cat, length_join, length_mleaf, length_mpair, hs, length_zsum]; done) | (simp [cat, length_join, length_mleaf, length_mpair, hs, length_zsum]; omega) | rfl)) rfl ?_
            refine p_does (d_storeW S 1 rfl rfl (by first | exact bv_one _ | exact sv_one _ | exact iv_one _ | with_reducible assumption | (refine One.mem ?_; repeat (first | exact One.bv _ | exact One.sv _ | exact One.iv _ | exact One.nil | exact One.cat0 | refine One.cat1 ?_ ?_ | refine One.cons rfl ?_ | refine One.append ?_ ?_))) sz29 (by first | with_reducible assumption | (rw [bv_length]; with_reducible assumption) | (rw [List.size_toArray, bv_length]; with_reducible assumption) | (simp [cat, length_join, length_mleaf, length_mpair, hs, length_zsum]; done) | (simp [cat, length_join, length_mleaf, length_mpair, hs, length_zsum]; omega) | rfl) rfl rfl (by first | with_reducible assumption | (rw [bv_length]; with_reducible assumption) | (rw [List.size_toArray, bv_length]; with_reducible assumption) | (simp [cat, length_join, length_mleaf, length_mpair, hs, length_zsum]; done) | (simp [cat, length_join, length_mleaf, length_mpair, hs, length_zsum]; omega) | rfl)) rfl ?_
            intro _ w S
            refine p_val (e_assign (v := .bool _) rfl) rfl ?_
            refine p_nil (x_then (s_ret (x_then_ret (x_then_ret (x_then_ret (x_in_ret (x_then_ret (x_then_ret (x_in_ret (x_then_ret ?_))))))))))
            exact postC1 (v := .bool _) Try.results40 S 1 rfl rfl rfl rfl ag29 sz29 (by first | with_reducible assumption | (rw [bv_length]; with_reducible assumption) | (rw [List.size_toArray, bv_length]; with_reducible assumption) | (simp [cat, length_join, length_mleaf, length_mpair, hs, length_zsum]; done) | (simp [cat, length_join, length_mleaf, length_mpair, hs, length_zsum]; omega) | rfl) (⟨_, _, rfl, hnl, by rw [Int.toNat_natCast, Int.toNat_natCast, ← hc, List.drop_of_length_le (by omega), climbC_nil (by omega) (by unfold sidx; split <;> omega)]; rfl, S.to_below⟩)
          · refine s_skip (x_then (s_seq ?_))
            refine s_cutK (ks := [some b10, some b8, some b4]) (ps := [Ex _ _, Ex _ _, Ex _ _]) [(1, .int _ _), (2, .int _ _), (3, .slice _ _ _), (8, .pointer _), (10, .pointer _), (11, .int _ _), (12, .int _ _)] ⟨rfl, rfl, rfl, rfl, rfl, rfl, rfl, trivial⟩ S (fun keep ks ps f' w' => ∃ u now3, f' = upds u (keep) ∧ (now3.length = 32) ∧ (now3 = if b % 2 = 0 then mpair now (P.getD k []) else mpair (P.getD k []) now) ∧ St w0 w' [] [some b10, some b8, some b4] [Ex (bv now3).toArray 29, (ps.getD 1 fun _ => True), (ps.getD 2 fun _ => True)]) ?_ ?_
            · refine s_seq (s_plain ?_)
              have hp32 : (P.getD (k : Int).toNat []).length = 32 := hP.getD (by omega)
              refine p_val (e_move (v := .int _ _) rfl) rfl ?_
              refine p_val (e_rem64 rfl rfl (by omega)) rfl ?_
              refine p_val (e_eql rfl rfl) rfl ?_
              refine p_nil (x_then ?_)
              refine s_cond rfl (fun hc40 => ?_) (fun hc40 => ?_)
              · refine s_drawK (ks := [some b10, some b8, some b4]) (ps := [Ex _ _, Ex _ _, Ex _ _]) S [(true, 0), (true, 1), (true, 2), (true, 3), (true, 4), (false, 5)] [6] [6] mixed (by kernel_rfl) (by repeat (first | exact Calm.post _ _ _ | refine Calm.then ?_ _ | refine Calm.inB ?_ _)) (fun hS => ?_)
                have S := S.drew
                refine q_val (fun w hS => e_loadW 0 rfl ag29 sz29 hS rfl rfl (by first | with_reducible assumption | (rw [bv_length]; with_reducible assumption) | (rw [List.size_toArray, bv_length]; with_reducible assumption) | (simp [cat, length_join, length_mleaf, length_mpair, hs, length_zsum]; done) | (simp [cat, length_join, length_mleaf, length_mpair, hs, length_zsum]; omega) | rfl)) rfl hS ?_
                refine q_val (fun w hS => e_move (v := .slice _ _ _) rfl) rfl hS ?_
                refine q_val (fun w hS => e_move (v := .int _ _) rfl) rfl hS ?_
                refine q_val (fun w hS => e_ixR (hS.rdOld R rfl) (by decide) rfl rfl Try.underlying24 sz29 (by omega)) rfl hS ?_
                refine q_val (fun w hS => e_loadRA rfl ag29 sz29 (by decide) (Rd.sumA (hS.rdOld R rfl) (by with_reducible assumption) (by omega))) rfl hS ?_
                refine q_does (d_call Try.func85 nm85 rfl rfl (pair_calls _ 2 _ _ (by first | with_reducible assumption | (rw [bv_length]; with_reducible assumption) | (rw [List.size_toArray, bv_length]; with_reducible assumption) | (simp [cat, length_join, length_mleaf, length_mpair, hs, length_zsum]; done) | (simp [cat, length_join, length_mleaf, length_mpair, hs, length_zsum]; omega) | rfl) hp32)) rfl ?_
                rintro _ w ⟨rfl, hB⟩
                have S := S.below hB
                have hS := S.pk [0, 1, 2] rfl
                refine ⟨hS, ?_⟩
                refine q_nil ?_
                refine p_does (d_storeW S 0 rfl rfl (by first | exact bv_one _ | exact sv_one _ | exact iv_one _ | with_reducible assumption | (refine One.mem ?_; repeat (first | exact One.bv _ | exact One.sv _ | exact One.iv _ | exact One.nil | exact One.cat0 | refine One.cat1 ?_ ?_ | refine One.cons rfl ?_ | refine One.append ?_ ?_))) sz29 (by first | with_reducible assumption | (rw [bv_length]; with_reducible assumption) | (rw [List.size_toArray, bv_length]; with_reducible assumption) | (simp [cat, length_join, length_mleaf, length_mpair, hs, length_zsum]; done) | (simp [cat, length_join, length_mleaf, length_mpair, hs, length_zsum]; omega) | rfl) rfl rfl (by first | with_reducible assumption | (rw [bv_length]; with_reducible assumption) | (rw [List.size_toArray, bv_length]; with_reducible assumption) | (simp [cat, length_join, length_mleaf, length_mpair, hs, length_zsum]; done) | (simp [cat, length_join, length_mleaf, length_mpair, hs, length_zsum]; omega) | rfl)) rfl ?_
                intro _ w S
                refine p_nil ?_
                exact x_then ⟨_, rfl, _, _, upds_eq ⟨rfl, rfl, rfl, rfl, rfl, rfl, rfl, trivial⟩, length_join _ _, by rw [if_pos (by omega), Int.toNat_natCast]; rfl, S⟩
              · refine s_drawK (ks := [some b10, some b8, some b4]) (ps := [Ex _ _, Ex _ _, Ex _ _]) S [(true, 0), (true, 1), (true, 2), (true, 3), (true, 4), (false, 5)] [6] [6] mixed (by kernel_rfl) (by repeat (first | exact Calm.post _ _ _ | refine Calm.then ?_ _ | refine Calm.inB ?_ _)) (fun hS => ?_)
                have S := S.drew
                refine q_val (fun w hS => e_move (v := .slice _ _ _) rfl) rfl hS ?_
                refine q_val (fun w hS => e_move (v := .int _ _) rfl) rfl hS ?_
                refine q_val (fun w hS => e_ixR (hS.rdOld R rfl) (by decide) rfl rfl Try.underlying24 sz29 (by omega)) rfl hS ?_
                refine q_val (fun w hS => e_loadRA rfl ag29 sz29 (by decide) (Rd.sumA (hS.rdOld R rfl) (by with_reducible assumption) (by omega))) rfl hS ?_
                refine q_val (fun w hS => e_loadW 0 rfl ag29 sz29 hS rfl rfl (by first | with_reducible assumption | (rw [bv_length]; with_reducible assumption) | (rw [List.size_toArray, bv_length]; with_reducible assumption) | (simp [cat, length_join, length_mleaf, length_mpair, hs, length_zsum]; done) | (simp [cat, length_join, length_mleaf, length_mpair, hs, length_zsum]; omega) | rfl)) rfl hS ?_
                refine q_does (d_call Try.func85 nm85 rfl rfl (pair_calls _ 2 _ _ hp32 (by first | with_reducible assumption | (rw [bv_length]; with_reducible assumption) | (rw [List.size_toArray, bv_length]; with_reducible assumption) | (simp [cat, length_join, length_mleaf, length_mpair, hs, length_zsum]; done) | (simp [cat, length_join, length_mleaf, length_mpair, hs, length_zsum]; omega) | rfl))) rfl ?_
                rintro _ w ⟨rfl, hB⟩
                have S := S.below hB
                have hS := S.pk [0, 1, 2] rfl
                refine ⟨hS, ?_⟩
                refine q_nil ?_
                refine p_does (d_storeW S 0 rfl rfl (by first | exact bv_one _ | exact sv_one _ | exact iv_one _ | with_reducible assumption | (refine One.mem ?_; repeat (first | exact One.bv _ | exact One.sv _ | exact One.iv _ | exact One.nil | exact One.cat0 | refine One.cat1 ?_ ?_ | refine One.cons rfl ?_ | refine One.append ?_ ?_))) sz29 (by first | with_reducible assumption | (rw [bv_length]; with_reducible assumption) | (rw [List.size_toArray, bv_length]; with_reducible assumption) | (simp [cat, length_join, length_mleaf, length_mpair, hs, length_zsum]; done) | (simp [cat, length_join, length_mleaf, length_mpair, hs, length_zsum]; omega) | rfl) rfl rfl (by first | with_reducible assumption | (rw [bv_length]; with_reducible assumption) | (rw [List.size_toArray, bv_length]; with_reducible assumption) | (simp [cat, length_join, length_mleaf, length_mpair, hs, length_zsum]; done) | (simp [cat, length_join, length_mleaf, length_mpair, hs, length_zsum]; omega) | rfl)) rfl ?_
                intro _ w S
                refine p_nil ?_
                exact x_then ⟨_, rfl, _, _, upds_eq ⟨rfl, rfl, rfl, rfl, rfl, rfl, rfl, trivial⟩, length_join _ _, by rw [if_neg (by omega), Int.toNat_natCast]; rfl, S⟩
            · rintro f w ⟨u, now3, rfl, hnl3, h3, S⟩
              refine x_then (s_plain ?_)
              refine p_val (e_move (v := .int _ _) rfl) rfl ?_
              refine p_val (e_add64 rfl rfl (by omega)) rfl ?_
              refine p_val (e_assign (v := .int _ _) rfl) rfl ?_
              refine p_nil ?_
              exact x_then ⟨_, rfl, _, k + 1,  _, upds_eq ⟨rfl, rfl, rfl, rfl, rfl, rfl, rfl, trivial⟩, hnl3, by first | omega | rfl | with_reducible assumption | (simp; done) | (simp; omega), by rw [drop_getD (show k < P.length by omega), climbC_cons (by omega) (by unfold sidx; split <;> omega), h3], S⟩
        · refine s_skip ?_
          exact x_then ⟨_, rfl, _, k,  _, upds_eq ⟨rfl, rfl, rfl, rfl, rfl, rfl, rfl, trivial⟩, hnl, by first | omega | rfl | with_reducible assumption | (simp; done) | (simp; omega), (climbC_no (by omega) (by unfold sidx; split <;> omega)).symm, S⟩
      · rintro f w ⟨u, k2, now2, rfl, hnl2, hk2, hc2, S⟩
        refine x_then (s_seq (s_plain ?_))
        refine p_val (e_move (v := .int _ _) rfl) rfl ?_
        refine p_val (e_quo64 rfl rfl (by omega)) rfl ?_
        refine p_val (e_assign (v := .int _ _) rfl) rfl ?_
        refine p_nil (x_then (s_plain ?_))
        refine p_val (e_move (v := .int _ _) rfl) rfl ?_
        refine p_val (e_add64 rfl rfl (by omega)) rfl ?_
        refine p_val (e_quo64 rfl rfl (by omega)) rfl ?_
        refine p_val (e_assign (v := .int _ _) rfl) rfl ?_
        refine p_nil (x_in (x_then (s_plain ?_)))
        refine p_val (e_move (v := .int _ _) rfl) rfl ?_
        refine p_val (e_add64 rfl rfl (by omega)) rfl ?_
        refine p_val (e_assign (v := .int _ _) rfl) rfl ?_
        refine p_nil ?_
        refine x_round (g + 1) _ rfl ⟨_, b / 2,  (n + 1) / 2,  k2,  _, upds_eq ⟨rfl, rfl, rfl, rfl, rfl, rfl, rfl, trivial⟩, hnl2, by first | omega | rfl | with_reducible assumption | (simp; done) | (simp; omega), by first | omega | rfl | with_reducible assumption | (simp; done) | (simp; omega), by have e0 : 2 ^ (12 - g) = 2 * 2 ^ (12 - (g + 1)) := by { rw [← Nat.pow_succ']; congr 1; omega }; omega, by first | omega | rfl | with_reducible assumption | (simp; done) | (simp; omega), by first | omega | rfl | with_reducible assumption | (simp; done) | (simp; omega), by rw [hc2]; exact hc, S⟩ (by omega)
    · have hp21 : ¬ (((g : Int) < (13 : Int)) ∧ ((1 : Int) < ((n : Nat) : Int))) := fun h => by rw [hb21.2 h] at hc21; cases hc21
      refine s_exit (x_then_exit (x_then_exit (x_in_same (x_then (s_seq (s_plain ?_))))))
      have hn1 : n ≤ 1 := by { by_cases h9 : g < 12; { omega }; { rw [show 12 - g = 0 by omega] at hn; exact hn } }
      refine p_val (e_loadW 0 rfl ag29 sz29 S rfl rfl (by first | with_reducible assumption | (rw [bv_length]; with_reducible assumption) | (rw [List.size_toArray, bv_length]; with_reducible assumption) | (simp [cat, length_join, length_mleaf, length_mpair, hs, length_zsum]; done) | (simp [cat, length_join, length_mleaf, length_mpair, hs, length_zsum]; omega) | rfl)) rfl ?_
      refine p_val (e_move (v := .int _ _) rfl) rfl ?_
      refine p_val (e_move (v := .slice _ _ _) rfl) rfl ?_
      refine p_val (e_len rfl Try.underlying24) rfl ?_
      refine p_val (e_eql rfl rfl) rfl ?_
      refine p_does (d_storeW S 1 rfl rfl (by first | exact bv_one _ | exact sv_one _ | exact iv_one _ | with_reducible assumption | (refine One.mem ?_; repeat (first | exact One.bv _ | exact One.sv _ | exact One.iv _ | exact One.nil | exact One.cat0 | refine One.cat1 ?_ ?_ | refine One.cons rfl ?_ | refine One.append ?_ ?_))) sz29 (by first | with_reducible assumption | (rw [bv_length]; with_reducible assumption) | (rw [List.size_toArray, bv_length]; with_reducible assumption) | (simp [cat, length_join, length_mleaf, length_mpair, hs, length_zsum]; done) | (simp [cat, length_join, length_mleaf, length_mpair, hs, length_zsum]; omega) | rfl) rfl rfl (by first | with_reducible assumption | (rw [bv_length]; with_reducible assumption) | (rw [List.size_toArray, bv_length]; with_reducible assumption) | (simp [cat, length_join, length_mleaf, length_mpair, hs, length_zsum]; done) | (simp [cat, length_join, length_mleaf, length_mpair, hs, length_zsum]; omega) | rfl)) rfl ?_
      intro _ w S
      refine p_val (e_assign (v := .bool _) rfl) rfl ?_
      refine p_nil (x_then (s_ret ?_))
      exact postC1 (v := .bool _) Try.results40 S 1 rfl rfl rfl rfl ag29 sz29 (by first | with_reducible assumption | (rw [bv_length]; with_reducible assumption) | (rw [List.size_toArray, bv_length]; with_reducible assumption) | (simp [cat, length_join, length_mleaf, length_mpair, hs, length_zsum]; done) | (simp [cat, length_join, length_mleaf, length_mpair, hs, length_zsum]; omega) | rfl) (⟨_, _, rfl, hnl, by rw [Int.toNat_natCast, Int.toNat_natCast, ← hc, climbC_end hn1]; by_cases h8 : k = P.length; { rw [List.drop_of_length_le (by omega), if_pos (by simp [h8])] }; { rw [drop_getD (show k < P.length by omega), if_neg (by simp; omega)] }, S.to_below⟩)
end Go.Proofs.Ytdhfiamgmokfbaa

/- A block's sum, so written that the kernel carries it out fast, and that it is the block's sum. It proves no statement by itself. -/
set_option linter.unusedSimpArgs false
set_option linter.unusedVariables false
namespace Go.Proofs.Ytdhfiamgmokfbaa
open E
/-- the words, the newest first -/
def grow : Nat → List Nat → List Nat
  | 0, l => l
  | n + 1, l =>
    let x := l.getD 14 0
    let y := l.getD 1 0
    grow n (add32 (add32 (add32 (l.getD 15 0) (xor32 (xor32 (rotr 7 x) (rotr 18 x)) (shr32 x 3))) (l.getD 6 0)) (xor32 (xor32 (rotr 17 y) (rotr 19 y)) (shr32 y 10)) :: l)
def run : List (Nat × Nat) → St8 → St8
  | [], v => v
  | (k, w) :: l, v => run l (rnd v k w)
def words (b : List Nat) : List Nat := (List.range 16).map (word b)
def blockQ (h : St8) (b : List Nat) : St8 := add8 h (run (K.zip (grow 48 (words b).reverse).reverse) h)
theorem run_append : ∀ (a b : List (Nat × Nat)) (v : St8), run (a ++ b) v = run b (run a v)
  | [], _, _ => rfl
  | (k, w) :: a, b, v => run_append a b (rnd v k w)
theorem rounds_run (ws : List Nat) (v : St8) (hw : ws.length = 64) : ∀ n, n ≤ 64 → rounds ws v n = run ((K.zip ws).take n) v
  | 0, _ => by simp [rounds, run]
  | n + 1, h => by
    have hl : n < (K.zip ws).length := by rw [List.length_zip, hw]; simp only [K, List.length_cons, List.length_nil]; omega
    have hk : n < K.length := by simp only [K, List.length_cons, List.length_nil]; omega
    rw [rounds, rounds_run ws v hw n (by omega), List.take_add_one, List.getElem?_eq_getElem hl, List.getElem_zip, run_append]
    simp only [Option.toList, run, List.getD_eq_getElem?_getD, List.getElem?_eq_getElem hk, List.getElem?_eq_getElem (show n < ws.length by omega), Option.getD_some]
def stepQ (l : List Nat) : Nat :=
  let x := l.getD 14 0
  let y := l.getD 1 0
  add32 (add32 (add32 (l.getD 15 0) (xor32 (xor32 (rotr 7 x) (rotr 18 x)) (shr32 x 3))) (l.getD 6 0)) (xor32 (xor32 (rotr 17 y) (rotr 19 y)) (shr32 y 10))
theorem rev_getD (l : List Nat) (n i j : Nat) (h : i + j + 1 = n) (hl : n ≤ l.length) : ((l.take n).reverse).getD i 0 = l.getD j 0 := by
  rw [List.getD_eq_getElem?_getD, List.getD_eq_getElem?_getD, List.getElem?_reverse (by rw [List.length_take]; omega), List.length_take, List.getElem?_take, if_pos (by omega)]
  congr 2
  omega
theorem stepQ_eq (b : List Nat) (j : Nat) (hj : j < 48) : stepQ ((sp2 b j).take (16 + j)).reverse = nxt (sp2 b j) (16 + j) := by
  have hl := length_sp2 b j
  unfold stepQ nxt
  rw [rev_getD _ _ 14 (16 + j - 15) (by omega) (by omega), rev_getD _ _ 1 (16 + j - 2) (by omega) (by omega), rev_getD _ _ 15 (16 + j - 16) (by omega) (by omega), rev_getD _ _ 6 (16 + j - 7) (by omega) (by omega)]
theorem grow_eq (b : List Nat) : ∀ n j, j + n ≤ 48 → grow n ((sp2 b j).take (16 + j)).reverse = ((sp2 b (j + n)).take (16 + j + n)).reverse
  | 0, j, _ => rfl
  | n + 1, j, h => by
    have hl := length_sp2 b j
    have e : stepQ ((sp2 b j).take (16 + j)).reverse :: ((sp2 b j).take (16 + j)).reverse = ((sp2 b (j + 1)).take (16 + (j + 1))).reverse := by
      rw [stepQ_eq b j (by omega), ← List.reverse_concat]
      congr 1
      show _ = ((sp2 b j).set (16 + j) (nxt (sp2 b j) (16 + j))).take (16 + j + 1)
      rw [List.take_add_one, List.take_set_of_le (by omega), List.getElem?_set_self (by omega)]
      rfl
    show grow n (stepQ ((sp2 b j).take (16 + j)).reverse :: ((sp2 b j).take (16 + j)).reverse) = _
    rw [e, grow_eq b n (j + 1) (by omega), show j + 1 + n = j + (n + 1) by omega, show 16 + (j + 1) + n = 16 + j + (n + 1) by omega]
theorem words_eq (b : List Nat) : words b = (sp1 b 16).take 16 := rfl
theorem block_eq (h : St8) (b : List Nat) : block h b = blockQ h b := by
  have e := grow_eq b 48 0 (by omega)
  have hl := length_sp2 b 48
  unfold block blockQ
  rw [rounds_run _ _ (length_spread b) 64 (by omega), words_eq]
  have e2 : (grow 48 ((sp1 b 16).take 16).reverse).reverse = spread b := by
    have e3 : grow 48 ((sp1 b 16).take 16).reverse = ((sp2 b 48).take 64).reverse := e
    rw [e3, List.reverse_reverse, List.take_of_length_le (by omega)]
    rfl
  rw [e2, List.take_of_length_le (by rw [List.length_zip, length_spread]; simp only [K, List.length_cons, List.length_nil]; omega)]
end Go.Proofs.Ytdhfiamgmokfbaa

/- Sums, so written that the kernel carries them out fast. It proves no statement by itself. -/
set_option linter.unusedSimpArgs false
set_option linter.unusedVariables false
namespace Go.Proofs.Ytdhfiamgmokfbaa
open E
def hqf {α : Type} (f : α → List Nat → α) : Nat → List Nat → α → α
  | 0, _, v => v
  | n + 1, p, v => hqf f n (p.drop 64) (f v (p.take 64))
theorem hqf_succ {α : Type} (f : α → List Nat → α) : ∀ (n : Nat) (p : List Nat) (v : α), hqf f (n + 1) p v = f (hqf f n p v) ((p.drop (64 * n)).take 64)
  | 0, p, v => rfl
  | n + 1, p, v => by
    show hqf f (n + 1) (p.drop 64) (f v (p.take 64)) = _
    rw [hqf_succ f n, List.drop_drop, show 64 + 64 * n = 64 * (n + 1) by omega]
    rfl
theorem hashes_hqf (f : St8 → List Nat → St8) (hf : ∀ h b, block h b = f h b) (p : List Nat) : ∀ n, hashes p n = hqf f n p first
  | 0 => rfl
  | n + 1 => by rw [hashes, hashes_hqf f hf p n, hf, hqf_succ]
def sumQ (l : List Nat) : List Nat := outB (s8 (hqf blockQ ((pad l).length / 64) (pad l) first)) 8
theorem sumOf_Q (l : List Nat) : sumOf l = sumQ l := by
  unfold sumOf sumQ
  rw [hashes_hqf blockQ block_eq]
theorem join_Q (tag : Nat) (ls : List (List Nat)) : join tag ls = sumQ (joinB tag ls ls.length) := by
  unfold join
  rw [sumOf_Q]
end Go.Proofs.Ytdhfiamgmokfbaa

/- A row of bytes that a constant string is turned into: the run-time's mark on it. It proves no statement by itself. -/
set_option linter.unusedSimpArgs false
set_option linter.unusedVariables false
namespace Go.Proofs.Ytdhfiamgmokfbaa
open Go Go.RowKit
namespace E
section
variable {P : Program} {w0 w : World} {ex : List Nat} {ks : List (Option Nat)} {ps pp : List (Option Obj → Prop)}
theorem freeze_heap (w : World) (b k : Nat) (cs : Array Value) (t : TypeId) (h : w.heap[b]? = some (.cells cs t (0, 0))) : (w.freeze ⟨b, k, none⟩ 1).heap[b]? = some (.cells cs t (k, k + 1)) := by
  have hlt : b < w.heap.size := (Array.getElem?_eq_some_iff.1 h).1
  unfold World.freeze
  rw [if_neg (by decide)]
  show (w.heap.modify b _)[b]? = _
  rw [Array.getElem?_modify]
  simp [h]
theorem freeze_other (w : World) (b k c : Nat) (h : c ≠ b) : (w.freeze ⟨b, k, none⟩ 1).heap[c]? = w.heap[c]? := by
  unfold World.freeze
  rw [if_neg (by decide)]
  show (w.heap.modify b _)[c]? = _
  rw [Array.getElem?_modify, if_neg (fun e => h e.symm)]
theorem freeze_size (w : World) (b k : Nat) : (w.freeze ⟨b, k, none⟩ 1).heap.size = w.heap.size := by
  unfold World.freeze
  rw [if_neg (by decide)]
  exact Array.size_modify
theorem freeze_rest (w : World) (b k : Nat) : (w.freeze ⟨b, k, none⟩ 1).os = w.os ∧ (w.freeze ⟨b, k, none⟩ 1).tape = w.tape ∧ (w.freeze ⟨b, k, none⟩ 1).output = w.output := by
  unfold World.freeze
  rw [if_neg (by decide)]
  exact ⟨rfl, rfl, rfl⟩
theorem St.freeze (S : St w0 w ex ks ps) (i m : Nat) {b : Nat} {cs : Array Value} {t : TypeId} (p' : Option Obj → Prop) (hk : ks[i]? = some (some b)) (hb : w.heap[b]? = some (.cells cs t (0, 0))) (hp : p' (some (.cells cs t (m, m + 1)))) :
    St w0 (w.freeze ⟨b, m, none⟩ 1) ex ks (ps.set i p') := by
  have hlt := S.lt b (List.mem_of_getElem? hk)
  obtain ⟨r1, r2, r3⟩ := freeze_rest w b m
  refine ⟨by rw [r1]; exact S.os, by rw [r2]; exact S.tape, by rw [r3]; exact S.output, by rw [freeze_size]; exact S.size, fun k hk' hx => ?_, fun j k p h h' => ?_, fun c h => by rw [freeze_size]; exact S.lt c h, S.fresh, S.nodup⟩
  · have : k ≠ b := by
      rintro rfl
      rcases S.fresh k (List.mem_of_getElem? hk) with h | h
      · omega
      · exact hx h
    rw [freeze_other w b m k this]
    exact S.old k hk' hx
  · by_cases hij : j = i
    · subst hij
      rw [hk] at h
      cases h
      have hl : j < ps.length := by
        have := (List.getElem?_eq_some_iff.1 h').1
        simpa using this
      rw [List.getElem?_set_self hl] at h'
      cases h'
      show p' ((w.freeze ⟨b, m, none⟩ 1).heap[b]?)
      rw [freeze_heap w b m cs t hb]; exact hp
    · rw [List.getElem?_set_ne (Ne.symm hij)] at h'
      have := S.own j k p h h'
      cases k with
      | none => exact this
      | some c =>
        have hc : c ≠ b := by
          rintro rfl
          exact hij (S.nodup j i c h hk)
        show p ((w.freeze ⟨b, m, none⟩ 1).heap[c]?)
        rw [freeze_other w b m c hc]; exact this
variable {ρ : Operand → Value} {d : Option Nat} {t ty : TypeId} {x : Operand} {ps' : String} {af : Array Edge} {g : Option (Nat × Bool)}
theorem d_mark {e : TypeId} {k : Option Nat} {n c cap : Nat} {xs : List Value} (S : St w0 w ex ks pp) (i : Nat) (hk : ks[i]? = some k) (hp : pp[i]? = some (Rw e 1 n cap xs)) (hn : 0 < n) (hx : ρ x = .slice (at_ k) n c) (ht : P.underlying t = some (.slice e)) (he : P.underlying e = some (.int .u8)) :
    Does P ρ { dst := d, op := .convert t t x, type := ty, pos := ps', after := af, guard := g } w fun v w' => v = .slice (at_ k) n c ∧ St w0 w' ex ks (pp.set i (Fz n xs)) := by
  obtain ⟨hxl, h⟩ := S.own i _ _ hk hp
  rcases h with ⟨_, h0, _⟩ | ⟨cur, hc, hnc, hcm, hcs, htk⟩
  · omega
  · cases k with
    | none => cases hc
    | some b =>
      have hb : w.heap[b]? = some (.cells cur e (0, 0)) := hc
      have hsh : w.shape? b = some (e, cur.size) := by unfold World.shape?; rw [hb]
      refine .inl ⟨_, w.freeze ⟨b, cur.size, none⟩ 1, ?_, rfl, S.freeze i cur.size (Fz n xs) hk hb ⟨by omega, _, _, _, rfl, by omega, by simpa using htk⟩⟩
      show ((do pure (.value (← convert t t (ρ x)))) : Sem Next).run P w = _
      rw [hx]
      simp [convert, run_underlying ht, run_underlying he, markStringish, hsh]
end
end E
end Go.Proofs.Ytdhfiamgmokfbaa

/- The third law's example. It proves no statement by itself. -/
set_option linter.unusedSimpArgs false
set_option linter.unusedVariables false
set_option maxRecDepth 100000
set_option maxHeartbeats 1000000
namespace Go.Proofs.Ytdhfiamgmokfbaa
open Go Go.RowKit E
attribute [local irreducible] wpList seqH treeH
theorem leaf97_0 : ((mleaf (sumOf [97])).getD 0 0 == (sumOf [97]).getD 0 0) = false := by kernel_rfl
theorem leaf97 : ¬ mleaf (sumOf [97]) = sumOf [97] := fun e => by
  have h := leaf97_0
  rw [e] at h; simp at h
theorem pair97_0 : ((mpair (mleaf (sumOf [97])) (mleaf (sumOf [97]))).getD 0 0 == (mleaf (sumOf [97])).getD 0 0) = false := by kernel_rfl
theorem pair97 : ¬ mpair (mleaf (sumOf [97])) (mleaf (sumOf [97])) = mleaf (sumOf [97]) := fun e => by
  have h := pair97_0
  rw [e] at h; simp at h
theorem l3awake (w0 : World) :
    Ret Try.prog 39 [] w0 fun v w' => v = .bool true ∧ Below w0.heap.size w0 w' := by
  refine enter Try.func39 rfl Try.ntmps39 (Nat.le_of_ble_eq_true rfl) ?_
  have S := St.init w0
  obtain ⟨z, hz⟩ : ∃ z, z = sumOf [97] := ⟨_, rfl⟩
  have hl : z.length = 32 := by rw [hz]; exact length_sumOf _
  have hm1 : mroot [z] = mleaf z := mroot_one rfl
  have hm2 : mroot [z, z] = mpair (mleaf z) (mleaf z) := by { unfold mroot; rw [if_neg (by simp), rootI_up (by simp)]; exact rootI_one _ }
  have hn1 : ¬ mleaf z = z := by { rw [hz]; exact leaf97 }
  have hn2 : ¬ mpair (mleaf z) (mleaf z) = mleaf z := by { rw [hz]; exact pair97 }
  have hck : mcheck (mleaf z) z 0 1 [] := ⟨by decide, by decide, by decide, climbC_end (by decide)⟩
  refine s_seq (s_plain ?_)
  refine p_val (e_assign (v := .bool _) rfl) rfl ?_
  refine p_nil (x_then (s_seq (s_plain ?_)))
  refine p_does (d_litB S Try.underlying33 sz5 zv5 rfl (l := [_]) rfl rfl (by decide)) rfl ?_
  rintro _ w ⟨b2, rfl, S⟩
  refine p_does (d_mark S 0 rfl rfl (by decide) rfl Try.underlying33 Try.underlying5) rfl ?_
  rintro _ w ⟨rfl, S⟩
  refine p_does (d_call Try.func80 nm80 rfl rfl (Ret.mono (R' := fun v w' => v = .agg (bv z).toArray ∧ Below _ _ w') (of_calls _ _ _ [97] (S.rdFz 0 rfl rfl) (by decide)) (fun v w' ⟨hv, hB⟩ => ⟨by rw [hv, hz], hB⟩))) rfl ?_
  rintro _ w ⟨rfl, hB⟩
  have S := S.below hB
  refine p_does (d_allocA S zvS) rfl ?_
  rintro _ w ⟨b1, rfl, S⟩
  refine p_does (d_storeW S 0 rfl rfl (by first | exact bv_one _ | exact sv_one _ | exact iv_one _ | with_reducible assumption | (refine One.mem ?_; repeat (first | exact One.bv _ | exact One.sv _ | exact One.iv _ | exact One.nil | exact One.cat0 | refine One.cat1 ?_ ?_ | refine One.cons rfl ?_ | refine One.append ?_ ?_))) sz29 (by first | with_reducible assumption | (rw [bv_length]; with_reducible assumption) | (rw [List.size_toArray, bv_length]; with_reducible assumption) | (simp [cat, hl, length_mleaf, length_mroot]; done) | (simp [cat, hl, length_mleaf, length_mroot]; omega) | rfl) rfl rfl (by first | with_reducible assumption | (rw [bv_length]; with_reducible assumption) | (rw [List.size_toArray, bv_length]; with_reducible assumption) | (simp [cat, hl, length_mleaf, length_mroot]; done) | (simp [cat, hl, length_mleaf, length_mroot]; omega) | rfl)) rfl ?_
  intro _ w S
  refine p_nil (x_then (s_seq ?_))
  refine s_cutK (ks := [some b1, some b2]) (ps := [Ex _ _, Fz _ _]) [] trivial S (fun keep ks ps f' w' => ∃ u bb, f' = upds u ((0, .bool bb) :: keep) ∧ (bb = true ↔ True) ∧ St w0 w' [] ks ps) ?_ ?_
  · refine s_drawK (ks := [some b1, some b2]) (ps := [Ex _ _, Fz _ _]) S [(true, 0), (true, 3), (false, 1), (false, 2), (false, 4), (true, 5), (true, 6), (true, 7), (true, 10), (false, 8), (false, 9), (true, 11), (true, 12), (true, 13), (true, 14), (true, 15), (true, 18), (false, 16), (false, 17), (false, 19), (true, 20), (true, 21), (true, 22), (true, 23), (true, 25), (false, 24), (false, 26), (true, 27)] [28] [28] mixed (by kernel_rfl) (by repeat (first | exact Calm.post _ _ _ | refine Calm.then ?_ _ | refine Calm.inB ?_ _)) (fun hS => ?_)
    have S := S.drew
    refine q_val (fun w hS => e_loadW 0 rfl ag29 sz29 hS rfl rfl (by first | with_reducible assumption | (rw [bv_length]; with_reducible assumption) | (rw [List.size_toArray, bv_length]; with_reducible assumption) | (simp [cat, hl, length_mleaf, length_mroot]; done) | (simp [cat, hl, length_mleaf, length_mroot]; omega) | rfl)) rfl hS ?_
    refine q_val (fun w hS => e_loadW 0 rfl ag29 sz29 hS rfl rfl (by first | with_reducible assumption | (rw [bv_length]; with_reducible assumption) | (rw [List.size_toArray, bv_length]; with_reducible assumption) | (simp [cat, hl, length_mleaf, length_mroot]; done) | (simp [cat, hl, length_mleaf, length_mroot]; omega) | rfl)) rfl hS ?_
    refine q_does (d_litS S Try.underlying24 sz29 zv29 rfl (L := [_]) rfl rfl (by intro x hx; simp at hx; simp [hx, hl, length_mleaf, length_mroot]) (by decide)) rfl ?_
    rintro _ w ⟨b6, rfl, S⟩
    have hS := S.pk [1, 2] rfl
    refine ⟨hS, ?_⟩
    refine q_does (d_call Try.func42 nm42 rfl rfl (mk_root _ _ _ [z] (S.rdRw 0 rfl rfl) (All32.single hl) (by simp))) rfl ?_
    rintro _ w ⟨rfl, hB⟩
    have S := S.below hB
    have hS := S.pk [1, 2] rfl
    refine ⟨hS, ?_⟩
    refine q_does (d_call Try.func44 nm44 rfl rfl (mk_leaf _ _ (by first | with_reducible assumption | (rw [bv_length]; with_reducible assumption) | (rw [List.size_toArray, bv_length]; with_reducible assumption) | (simp [cat, hl, length_mleaf, length_mroot]; done) | (simp [cat, hl, length_mleaf, length_mroot]; omega) | rfl))) rfl ?_
    rintro _ w ⟨rfl, hB⟩
    have S := S.below hB
    have hS := S.pk [1, 2] rfl
    refine ⟨hS, ?_⟩
    refine q_valB (fun w hS => EqT.sum eq29 gd29 rfl rfl (by first | with_reducible assumption | (rw [bv_length]; with_reducible assumption) | (rw [List.size_toArray, bv_length]; with_reducible assumption) | (simp [cat, hl, length_mleaf, length_mroot]; done) | (simp [cat, hl, length_mleaf, length_mroot]; omega) | rfl) (by first | with_reducible assumption | (rw [bv_length]; with_reducible assumption) | (rw [List.size_toArray, bv_length]; with_reducible assumption) | (simp [cat, hl, length_mleaf, length_mroot]; done) | (simp [cat, hl, length_mleaf, length_mroot]; omega) | rfl)) rfl hS (fun hg10 => ?_) (fun hg10 => ?_)
    · refine q_val (fun w hS => e_move (v := .bool _) rfl) rfl hS ?_
      refine qg_val rfl rfl rfl rfl rfl (fun w hS => e_loadW 0 rfl ag29 sz29 hS rfl rfl (by first | with_reducible assumption | (rw [bv_length]; with_reducible assumption) | (rw [List.size_toArray, bv_length]; with_reducible assumption) | (simp [cat, hl, length_mleaf, length_mroot]; done) | (simp [cat, hl, length_mleaf, length_mroot]; omega) | rfl)) hS ?_
      refine qg_val rfl rfl rfl rfl rfl (fun w hS => e_loadW 0 rfl ag29 sz29 hS rfl rfl (by first | with_reducible assumption | (rw [bv_length]; with_reducible assumption) | (rw [List.size_toArray, bv_length]; with_reducible assumption) | (simp [cat, hl, length_mleaf, length_mroot]; done) | (simp [cat, hl, length_mleaf, length_mroot]; omega) | rfl)) hS ?_
      refine qg_does rfl rfl rfl rfl rfl (d_litS S Try.underlying24 sz29 zv29 rfl (L := [_]) rfl rfl (by intro x hx; simp at hx; simp [hx, hl, length_mleaf, length_mroot]) (by decide)) ?_
      rintro _ w ⟨b13, rfl, S⟩
      have hS := S.pk [2, 3] rfl
      refine ⟨hS, ?_⟩
      refine qg_does rfl rfl rfl rfl rfl (d_call Try.func42 nm42 rfl rfl (mk_root _ _ _ [z] (S.rdRw 0 rfl rfl) (All32.single hl) (by simp))) ?_
      rintro _ w ⟨rfl, hB⟩
      have S := S.below hB
      have hS := S.pk [2, 3] rfl
      refine ⟨hS, ?_⟩
      refine qg_valB rfl rfl rfl rfl rfl (fun w hS => EqT.sumN eq29 gd29 rfl rfl (by first | with_reducible assumption | (rw [bv_length]; with_reducible assumption) | (rw [List.size_toArray, bv_length]; with_reducible assumption) | (simp [cat, hl, length_mleaf, length_mroot]; done) | (simp [cat, hl, length_mleaf, length_mroot]; omega) | rfl) (by first | with_reducible assumption | (rw [bv_length]; with_reducible assumption) | (rw [List.size_toArray, bv_length]; with_reducible assumption) | (simp [cat, hl, length_mleaf, length_mroot]; done) | (simp [cat, hl, length_mleaf, length_mroot]; omega) | rfl)) hS (fun hg16 => ?_) (fun hg16 => ?_)
      · refine q_val (fun w hS => e_pick_t rfl rfl) rfl hS ?_
        refine q_val (fun w hS => e_move (v := .bool _) rfl) rfl hS ?_
        refine qg_val rfl rfl rfl rfl rfl (fun w hS => e_loadW 0 rfl ag29 sz29 hS rfl rfl (by first | with_reducible assumption | (rw [bv_length]; with_reducible assumption) | (rw [List.size_toArray, bv_length]; with_reducible assumption) | (simp [cat, hl, length_mleaf, length_mroot]; done) | (simp [cat, hl, length_mleaf, length_mroot]; omega) | rfl)) hS ?_
        refine qg_val rfl rfl rfl rfl rfl (fun w hS => e_loadW 0 rfl ag29 sz29 hS rfl rfl (by first | with_reducible assumption | (rw [bv_length]; with_reducible assumption) | (rw [List.size_toArray, bv_length]; with_reducible assumption) | (simp [cat, hl, length_mleaf, length_mroot]; done) | (simp [cat, hl, length_mleaf, length_mroot]; omega) | rfl)) hS ?_
        refine qg_val rfl rfl rfl rfl rfl (fun w hS => e_loadW 0 rfl ag29 sz29 hS rfl rfl (by first | with_reducible assumption | (rw [bv_length]; with_reducible assumption) | (rw [List.size_toArray, bv_length]; with_reducible assumption) | (simp [cat, hl, length_mleaf, length_mroot]; done) | (simp [cat, hl, length_mleaf, length_mroot]; omega) | rfl)) hS ?_
        refine qg_does rfl rfl rfl rfl rfl (d_litS S Try.underlying24 sz29 zv29 rfl (L := [_, _]) rfl rfl (by intro x hx; simp at hx; simp [hx, hl, length_mleaf, length_mroot]) (by decide)) ?_
        rintro _ w ⟨b21, rfl, S⟩
        have hS := S.pk [3, 4] rfl
        refine ⟨hS, ?_⟩
        refine qg_does rfl rfl rfl rfl rfl (d_call Try.func42 nm42 rfl rfl (mk_root _ _ _ [z, z] (S.rdRw 0 rfl rfl) (All32.append (All32.single hl) (All32.single hl)) (by simp))) ?_
        rintro _ w ⟨rfl, hB⟩
        have S := S.below hB
        have hS := S.pk [3, 4] rfl
        refine ⟨hS, ?_⟩
        refine qg_does rfl rfl rfl rfl rfl (d_call Try.func44 nm44 rfl rfl (mk_leaf _ _ (by first | with_reducible assumption | (rw [bv_length]; with_reducible assumption) | (rw [List.size_toArray, bv_length]; with_reducible assumption) | (simp [cat, hl, length_mleaf, length_mroot]; done) | (simp [cat, hl, length_mleaf, length_mroot]; omega) | rfl))) ?_
        rintro _ w ⟨rfl, hB⟩
        have S := S.below hB
        have hS := S.pk [3, 4] rfl
        refine ⟨hS, ?_⟩
        refine qg_valB rfl rfl rfl rfl rfl (fun w hS => EqT.sumN eq29 gd29 rfl rfl (by first | with_reducible assumption | (rw [bv_length]; with_reducible assumption) | (rw [List.size_toArray, bv_length]; with_reducible assumption) | (simp [cat, hl, length_mleaf, length_mroot]; done) | (simp [cat, hl, length_mleaf, length_mroot]; omega) | rfl) (by first | with_reducible assumption | (rw [bv_length]; with_reducible assumption) | (rw [List.size_toArray, bv_length]; with_reducible assumption) | (simp [cat, hl, length_mleaf, length_mroot]; done) | (simp [cat, hl, length_mleaf, length_mroot]; omega) | rfl)) hS (fun hg25 => ?_) (fun hg25 => ?_)
        · refine q_val (fun w hS => e_pick_t rfl rfl) rfl hS ?_
          refine q_val (fun w hS => e_move (v := .bool _) rfl) rfl hS ?_
          refine qg_val rfl rfl rfl rfl rfl (fun w hS => e_loadW 0 rfl ag29 sz29 hS rfl rfl (by first | with_reducible assumption | (rw [bv_length]; with_reducible assumption) | (rw [List.size_toArray, bv_length]; with_reducible assumption) | (simp [cat, hl, length_mleaf, length_mroot]; done) | (simp [cat, hl, length_mleaf, length_mroot]; omega) | rfl)) hS ?_
          refine qg_val rfl rfl rfl rfl rfl (fun w hS => e_loadW 0 rfl ag29 sz29 hS rfl rfl (by first | with_reducible assumption | (rw [bv_length]; with_reducible assumption) | (rw [List.size_toArray, bv_length]; with_reducible assumption) | (simp [cat, hl, length_mleaf, length_mroot]; done) | (simp [cat, hl, length_mleaf, length_mroot]; omega) | rfl)) hS ?_
          refine qg_does rfl rfl rfl rfl rfl (d_call Try.func44 nm44 rfl rfl (mk_leaf _ _ (by first | with_reducible assumption | (rw [bv_length]; with_reducible assumption) | (rw [List.size_toArray, bv_length]; with_reducible assumption) | (simp [cat, hl, length_mleaf, length_mroot]; done) | (simp [cat, hl, length_mleaf, length_mroot]; omega) | rfl))) ?_
          rintro _ w ⟨rfl, hB⟩
          have S := S.below hB
          have hS := S.pk [3, 4] rfl
          refine ⟨hS, ?_⟩
          refine qg_does rfl rfl rfl rfl rfl (d_call Try.func38 nm38 rfl rfl (mk_check _ _ _ _ _ _ _ [] (length_mleaf _) hl (Rd.nil _ _ _) (by simp [All32]) (Nat.le_refl _))) ?_
          rintro _ w ⟨rfl, hB⟩
          have S := S.below hB
          have hS := S.pk [3, 4] rfl
          refine ⟨hS, ?_⟩
          refine q_val (fun w hS => e_pick_t rfl rfl) rfl hS ?_
          refine q_nil ?_
          refine p_val (e_assign (v := .bool _) rfl) rfl ?_
          exact p_nil (x_then ⟨_, rfl, _, _, upds_eq ⟨rfl, trivial⟩, by first | (simp; done) | (simp; exact hck) | simp [hck], S.pk [3, 4] rfl⟩)
        · exact False.elim (hg25 (fun h => hn2 (hm2.symm.trans h)))
      · exact False.elim (hg16 (fun h => hn1 (hm1.symm.trans h)))
    · exact False.elim (hg10 hm1)
  · rintro f w ⟨u, b0, rfl, hb0, S⟩
    refine x_then (s_ret ?_)
    exact post1 (v := .bool _) Try.results39 rfl (⟨by rw [hb0.2 trivial], S.to_below⟩)
end Go.Proofs.Ytdhfiamgmokfbaa
