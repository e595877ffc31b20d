/- Lamport's keys: secrets, what is shown, digests, bits. It proves no statement by itself. -/
import Derived.Test.YtdhfiamgmokfbaaSha6
import Derived.Test.YtdhfiamgmokfbaaMore4
set_option linter.unusedSimpArgs false
set_option linter.unusedVariables false
set_option maxRecDepth 100000
set_option maxHeartbeats 1000000
namespace Go.Proofs.Ytdhfiamgmokfbaa
open Go Go.RowKit E
def lsec (s : List Nat) (i b : Int) : List Nat := join 11 [s, [(i % 256).toNat, (b % 256).toNat]]
def lshown (s : List Nat) : List Nat := join 12 [s]
def ldig (l : List Nat) : List Nat := join 14 [l]
def lbit (s : List Nat) (i : Nat) : Nat := (s.getD (i / 8) 0 >>> (7 - i % 8)) % 2
theorem length_lsec (s : List Nat) (i b : Int) : (lsec s i b).length = 32 := length_join _ _
theorem length_lshown (s : List Nat) : (lshown s).length = 32 := length_join _ _
theorem length_ldig (s : List Nat) : (ldig s).length = 32 := length_join _ _
theorem lbit_lt (s : List Nat) (i : Nat) : lbit s i < 2 := Nat.mod_lt _ (by decide)
theorem lsec_calls (w0 : World) (s : List Nat) (i b : Int) (hs : s.length = 32) :
    Ret Try.prog 35 [.agg (bv s).toArray, .int .i64 i, .int .i64 b] w0 fun v w' => v = .agg (bv (lsec s i (b % 2))).toArray ∧ Below w0.heap.size w0 w' := by
  refine enter Try.func35 rfl Try.ntmps35 (Nat.le_of_ble_eq_true rfl) ?_
  have S := St.init w0
  refine s_seq (s_plain ?_)
  refine p_does (d_boxA S rfl) rfl ?_
  rintro _ w ⟨b1, rfl, S⟩
  refine p_does (d_allocA S zv29) rfl ?_
  rintro _ w ⟨b2, rfl, S⟩
  refine p_nil (x_then (s_seq (s_plain ?_)))
  refine p_val (e_sl_arr rfl Try.underlying29 sz5) rfl ?_
  refine p_val (e_move (v := .int _ _) rfl) rfl ?_
  refine p_val (e_conv8i rfl Try.underlying3 (by simp) Try.underlying5) rfl ?_
  refine p_val (e_move (v := .int _ _) rfl) rfl ?_
  refine p_val (e_and1 rfl rfl) rfl ?_
  refine p_val (e_conv8i rfl Try.underlying3 (by simp) Try.underlying5) rfl ?_
  refine p_does (d_litB S Try.underlying33 sz5 zv5 rfl (l := [_, _]) rfl rfl (by decide)) rfl ?_
  rintro _ w ⟨b3, rfl, S⟩
  refine p_does (d_lit1 S Try.underlying90 sz33 zv33 rfl (vs := [.slice _ _ _, .slice _ _ _]) rfl rfl rfl (by decide)) rfl ?_
  rintro _ w ⟨b4, rfl, S⟩
  refine p_does (d_call Try.func19 nm19 rfl rfl (join_calls _ 11 _ _ [s, [(i % 256).toNat, (b % 2 % 256).toNat]] (Parts.two (S.rdRw 0 rfl rfl) (S.rdBytes 3 rfl rfl hs) (S.rdRw 1 rfl rfl)) (by simp [joinB, len4, hs]) (by simp))) rfl ?_
  rintro _ w ⟨rfl, hB⟩
  have S := S.below hB
  refine p_does (d_storeW S 2 rfl rfl (bv_one _) sz29 (by simp [length_join]) rfl rfl (by rfl)) rfl ?_
  intro _ w S
  refine p_nil (x_then (s_ret ?_))
  exact postC Try.results35 S 2 rfl rfl rfl ag29 sz29 (by simp [length_join]) ⟨rfl, S.to_below⟩
theorem lshown_calls (w0 : World) (s : List Nat) (hs : s.length = 32) :
    Ret Try.prog 36 [.agg (bv s).toArray] w0 fun v w' => v = .agg (bv (lshown s)).toArray ∧ Below w0.heap.size w0 w' := by
  refine enter Try.func36 rfl Try.ntmps36 (Nat.le_of_ble_eq_true rfl) ?_
  have S := St.init w0
  refine s_seq (s_plain ?_)
  refine p_does (d_boxA S rfl) rfl ?_
  rintro _ w ⟨b1, rfl, S⟩
  refine p_does (d_allocA S zv29) rfl ?_
  rintro _ w ⟨b2, rfl, S⟩
  refine p_nil (x_then (s_seq (s_plain ?_)))
  refine p_val (e_sl_arr rfl Try.underlying29 sz5) rfl ?_
  refine p_does (d_lit1 S Try.underlying90 sz33 zv33 rfl (vs := [.slice _ _ _]) rfl rfl rfl (by decide)) rfl ?_
  rintro _ w ⟨b3, rfl, S⟩
  refine p_does (d_call Try.func19 nm19 rfl rfl (join_calls _ 12 _ _ [s] (Parts.one (S.rdRw 0 rfl rfl) (S.rdBytes 2 rfl rfl hs)) (by simp [joinB, len4, hs]) (by simp))) rfl ?_
  rintro _ w ⟨rfl, hB⟩
  have S := S.below hB
  refine p_does (d_storeW S 1 rfl rfl (bv_one _) sz29 (by simp [length_join]) rfl rfl (by rfl)) rfl ?_
  intro _ w S
  refine p_nil (x_then (s_ret ?_))
  exact postC Try.results36 S 1 rfl rfl rfl ag29 sz29 (by simp [length_join]) ⟨rfl, S.to_below⟩
theorem ldig_calls (w0 : World) (A : Option Addr) (n c0 : Nat) (l : List Nat) (R : Rd w0 1 A n (bv l)) (hn : n ≤ 1099511620000) :
    Ret Try.prog 33 [.slice A n c0] w0 fun v w' => v = .agg (bv (ldig l)).toArray ∧ Below w0.heap.size w0 w' := by
  have hl : l.length = n := by simpa using R.1
  refine enter Try.func33 rfl Try.ntmps33 (Nat.le_of_ble_eq_true rfl) ?_
  have S := St.init w0
  refine s_seq (s_plain ?_)
  refine p_does (d_allocA S zv29) rfl ?_
  rintro _ w ⟨b1, rfl, S⟩
  refine p_nil (x_then (s_seq (s_plain ?_)))
  refine p_val (e_move (v := .slice _ _ _) rfl) rfl ?_
  refine p_does (d_lit1 S Try.underlying90 sz33 zv33 rfl (vs := [.slice _ _ _]) rfl rfl rfl (by decide)) rfl ?_
  rintro _ w ⟨b2, rfl, S⟩
  refine p_does (d_call Try.func19 nm19 rfl rfl (join_calls _ 14 _ _ [l] (Parts.one (S.rdRw 0 rfl rfl) (S.rdOld R rfl)) (by simp [joinB, len4]; omega) (by simp))) rfl ?_
  rintro _ w ⟨rfl, hB⟩
  have S := S.below hB
  refine p_does (d_storeW S 1 rfl rfl (bv_one _) sz29 (by simp [length_join]) rfl rfl (by rfl)) rfl ?_
  intro _ w S
  refine p_nil (x_then (s_ret ?_))
  exact postC Try.results33 S 1 rfl rfl rfl ag29 sz29 (by simp [length_join]) ⟨rfl, S.to_below⟩
theorem lbit_calls (w0 : World) (s : List Nat) (i : Nat) (hs : s.length = 32) (hi : i < 256) :
    Ret Try.prog 84 [.agg (bv s).toArray, .int .i64 (i : Int)] w0 fun v w' => v = .int .i64 ((lbit s i : Nat) : Int) ∧ Below w0.heap.size w0 w' := by
  refine enter Try.func84 rfl Try.ntmps84 (Nat.le_of_ble_eq_true rfl) ?_
  have S := St.init w0
  refine s_seq (s_plain ?_)
  refine p_does (d_boxA S rfl) rfl ?_
  rintro _ w ⟨b1, rfl, S⟩
  refine p_val (e_assign (v := .int _ _) rfl) rfl ?_
  refine p_nil (x_then (s_seq (s_plain ?_)))
  refine p_val (e_move (v := .int _ _) rfl) rfl ?_
  refine p_val (e_quo64 rfl rfl (by omega)) rfl ?_
  refine p_val (e_ix_arr rfl rfl Try.underlying29 sz5 (by omega)) rfl ?_
  refine p_val (e_load rfl ag5 ((S.cell 0 rfl rfl _).trans (by rw [show (((i : Int) / 8).toNat * 1) = i / 8 by omega]; exact bv_getA (by omega)))) rfl ?_
  refine p_val (e_move (v := .int _ _) rfl) rfl ?_
  refine p_val (e_rem64 rfl rfl (by omega)) rfl ?_
  refine p_val (e_sub64 rfl rfl (by omega)) rfl ?_
  refine p_val (e_shr64 (7 - i % 8) rfl (show Value.int .i64 (7 - (i : Int) % 8) = .int .i64 ((7 - i % 8 : Nat) : Int) from congrArg _ (by omega)) (by show 7 - i % 8 ≤ 8; omega)) rfl ?_
  refine p_val (e_conv rfl Try.underlying5 (by simp) Try.underlying3) rfl ?_
  refine p_val (e_and1 rfl rfl) rfl ?_
  refine p_val (e_assign (v := .int _ _) rfl) rfl ?_
  refine p_nil (x_then (s_ret ?_))
  exact post1 (v := .int _ _) Try.results84 rfl ⟨congrArg (Value.int .i64) (by rw [IntKind.wrap_i64]; unfold lbit; omega), S.to_below⟩
theorem l4sec_calls (w0 : World) (s : List Nat) (i b : Int) (hs : s.length = 32) :
    Ret Try.prog 27 [.agg (bv s).toArray, .int .i64 i, .int .i64 b] w0 fun v w' => v = .agg (bv (lsec s i b)).toArray ∧ Below w0.heap.size w0 w' := by
  refine enter Try.func27 rfl Try.ntmps27 (Nat.le_of_ble_eq_true rfl) ?_
  have S := St.init w0
  refine s_seq (s_plain ?_)
  refine p_does (d_boxA S rfl) rfl ?_
  rintro _ w ⟨b1, rfl, S⟩
  refine p_does (d_allocA S zv29) rfl ?_
  rintro _ w ⟨b2, rfl, S⟩
  refine p_nil (x_then (s_seq (s_plain ?_)))
  refine p_val (e_sl_arr rfl Try.underlying29 sz5) rfl ?_
  refine p_val (e_move (v := .int _ _) rfl) rfl ?_
  refine p_val (e_conv8i rfl Try.underlying3 (by simp) Try.underlying5) rfl ?_
  refine p_val (e_move (v := .int _ _) rfl) rfl ?_
  refine p_val (e_conv8i rfl Try.underlying3 (by simp) Try.underlying5) rfl ?_
  refine p_does (d_litB S Try.underlying33 sz5 zv5 rfl (l := [_, _]) rfl rfl (by decide)) rfl ?_
  rintro _ w ⟨b3, rfl, S⟩
  refine p_does (d_lit1 S Try.underlying90 sz33 zv33 rfl (vs := [.slice _ _ _, .slice _ _ _]) rfl rfl rfl (by decide)) rfl ?_
  rintro _ w ⟨b4, rfl, S⟩
  refine p_does (d_call Try.func19 nm19 rfl rfl (join_calls _ 11 _ _ [s, [(i % 256).toNat, (b % 256).toNat]] (Parts.two (S.rdRw 0 rfl rfl) (S.rdBytes 3 rfl rfl hs) (S.rdRw 1 rfl rfl)) (by simp [joinB, len4, hs]) (by simp))) rfl ?_
  rintro _ w ⟨rfl, hB⟩
  have S := S.below hB
  refine p_does (d_storeW S 2 rfl rfl (bv_one _) sz29 (by simp [length_join]) rfl rfl (by rfl)) rfl ?_
  intro _ w S
  refine p_nil (x_then (s_ret ?_))
  exact postC Try.results27 S 2 rfl rfl rfl ag29 sz29 (by simp [length_join]) ⟨rfl, S.to_below⟩
theorem l4shown_calls (w0 : World) (s : List Nat) (hs : s.length = 32) :
    Ret Try.prog 28 [.agg (bv s).toArray] w0 fun v w' => v = .agg (bv (lshown s)).toArray ∧ Below w0.heap.size w0 w' := by
  refine enter Try.func28 rfl Try.ntmps28 (Nat.le_of_ble_eq_true rfl) ?_
  have S := St.init w0
  refine s_seq (s_plain ?_)
  refine p_does (d_boxA S rfl) rfl ?_
  rintro _ w ⟨b1, rfl, S⟩
  refine p_does (d_allocA S zv29) rfl ?_
  rintro _ w ⟨b2, rfl, S⟩
  refine p_nil (x_then (s_seq (s_plain ?_)))
  refine p_val (e_sl_arr rfl Try.underlying29 sz5) rfl ?_
  refine p_does (d_lit1 S Try.underlying90 sz33 zv33 rfl (vs := [.slice _ _ _]) rfl rfl rfl (by decide)) rfl ?_
  rintro _ w ⟨b3, rfl, S⟩
  refine p_does (d_call Try.func19 nm19 rfl rfl (join_calls _ 12 _ _ [s] (Parts.one (S.rdRw 0 rfl rfl) (S.rdBytes 2 rfl rfl hs)) (by simp [joinB, len4, hs]) (by simp))) rfl ?_
  rintro _ w ⟨rfl, hB⟩
  have S := S.below hB
  refine p_does (d_storeW S 1 rfl rfl (bv_one _) sz29 (by simp [length_join]) rfl rfl (by rfl)) rfl ?_
  intro _ w S
  refine p_nil (x_then (s_ret ?_))
  exact postC Try.results28 S 1 rfl rfl rfl ag29 sz29 (by simp [length_join]) ⟨rfl, S.to_below⟩
end Go.Proofs.Ytdhfiamgmokfbaa
