/- Secrets: what their functions compute. It proves no statement by itself. -/
import Derived.Test.YtdhfiamgmokfbaaSha6
import Derived.Test.YtdhfiamgmokfbaaMore3
set_option linter.unusedSimpArgs false
set_option linter.unusedVariables false
set_option maxRecDepth 100000
set_option maxHeartbeats 1000000
namespace Go.Proofs.Ytdhfiamgmokfbaa
open Go Go.RowKit E
def secOf (s : List Nat) (n : Int) : List Nat := join 61 [s, len4 n.toNat]
theorem length_secOf (s : List Nat) (n : Int) : (secOf s n).length = 32 := length_join _ _
theorem hash_of (w0 : World) (A : Option Addr) (n c0 : Nat) (l : List Nat) (R : Rd w0 1 A n (bv l)) (hn : n ≤ 1099511620000) :
    Ret Try.prog 101 [.slice A n c0] w0 fun v w' => v = .agg (bv (join 31 [l])).toArray ∧ Below w0.heap.size w0 w' := by
  have e : l.length = n := by simpa using R.1
  subst e
  exact hash_calls w0 A c0 l R hn
theorem secOf_calls (w0 : World) (s : List Nat) (n : Int) (hs : s.length = 32) :
    Ret Try.prog 82 [.agg (bv s).toArray, .int .i64 n] w0 fun v w' => v = .agg (bv (secOf s n)).toArray ∧ Below w0.heap.size w0 w' := by
  refine enter Try.func82 rfl Try.ntmps82 (Nat.le_of_ble_eq_true rfl) ?_
  have S := St.init w0
  refine s_seq (s_plain ?_)
  refine p_does (d_boxA S rfl) rfl ?_
  rintro _ w ⟨b1, rfl, S⟩
  refine p_does (d_allocA S zv29) rfl ?_
  rintro _ w ⟨b2, rfl, S⟩
  refine p_nil (x_then (s_seq (s_plain ?_)))
  refine p_val (e_move (v := .int _ _) rfl) rfl ?_
  refine p_val (e_max0 rfl rfl) rfl ?_
  refine p_val (e_assign (v := .int _ _) rfl) rfl ?_
  refine p_nil (x_then (s_seq (s_plain ?_)))
  refine p_val (e_sl_arr rfl Try.underlying29 sz5) rfl ?_
  refine p_val (e_move (v := .int _ _) rfl) rfl ?_
  refine p_val (e_shr64 24 rfl rfl (by decide)) rfl ?_
  refine p_val (e_conv8 rfl Try.underlying3 (by simp) Try.underlying5) rfl ?_
  refine p_val (e_move (v := .int _ _) rfl) rfl ?_
  refine p_val (e_shr64 16 rfl rfl (by decide)) rfl ?_
  refine p_val (e_conv8 rfl Try.underlying3 (by simp) Try.underlying5) rfl ?_
  refine p_val (e_move (v := .int _ _) rfl) rfl ?_
  refine p_val (e_shr64 8 rfl rfl (by decide)) rfl ?_
  refine p_val (e_conv8 rfl Try.underlying3 (by simp) Try.underlying5) rfl ?_
  refine p_val (e_move (v := .int _ _) rfl) rfl ?_
  refine p_val (e_conv8 rfl Try.underlying3 (by simp) Try.underlying5) rfl ?_
  refine p_does (d_litB S Try.underlying33 sz5 zv5 rfl (l := [_, _, _, _]) rfl rfl (by decide)) rfl ?_
  rintro _ w ⟨b3, rfl, S⟩
  refine p_does (d_lit1 S Try.underlying90 sz33 zv33 rfl (vs := [.slice _ _ _, .slice _ _ _]) rfl rfl rfl (by decide)) rfl ?_
  rintro _ w ⟨b4, rfl, S⟩
  refine p_does (d_call Try.func19 nm19 rfl rfl (join_calls _ 61 _ _ [s, len4 n.toNat] (Parts.two (S.rdRw 0 rfl rfl) (S.rdBytes 3 rfl rfl hs) (S.rdRw 1 rfl rfl)) (by simp [joinB, len4, hs]) (by simp))) rfl ?_
  rintro _ w ⟨rfl, hB⟩
  have S := S.below hB
  refine p_does (d_storeW S 2 rfl rfl (bv_one _) sz29 (by simp [length_join]) rfl rfl (by rfl)) rfl ?_
  intro _ w S
  refine p_nil (x_then (s_ret ?_))
  exact postC Try.results82 S 2 rfl rfl rfl ag29 sz29 (by simp [length_join]) ⟨rfl, S.to_below⟩
theorem shash_calls (w0 : World) (s : List Nat) (hs : s.length = 32) :
    Ret Try.prog 81 [.agg (bv s).toArray] w0 fun v w' => v = .agg (bv (join 31 [s])).toArray ∧ Below w0.heap.size w0 w' := by
  refine enter Try.func81 rfl Try.ntmps81 (Nat.le_of_ble_eq_true rfl) ?_
  have S := St.init w0
  refine s_seq (s_plain ?_)
  refine p_does (d_boxA S rfl) rfl ?_
  rintro _ w ⟨b1, rfl, S⟩
  refine p_does (d_allocA S zv29) rfl ?_
  rintro _ w ⟨b2, rfl, S⟩
  refine p_nil (x_then (s_seq (s_plain ?_)))
  refine p_val (e_sl_arr rfl Try.underlying29 sz5) rfl ?_
  refine p_does (d_call Try.func101 nm101 rfl rfl (hash_of _ _ _ _ s (S.rdBytes 1 rfl rfl hs) (by decide))) rfl ?_
  rintro _ w ⟨rfl, hB⟩
  have S := S.below hB
  refine p_does (d_storeW S 0 rfl rfl (bv_one _) sz29 (by simp [length_join]) rfl rfl (by rfl)) rfl ?_
  intro _ w S
  refine p_nil (x_then (s_ret ?_))
  exact postC Try.results81 S 0 rfl rfl rfl ag29 sz29 (by simp [length_join]) ⟨rfl, S.to_below⟩
theorem point_calls (w0 : World) (s : List Nat) (n : Int) (hs : s.length = 32) :
    Ret Try.prog 83 [.agg (bv s).toArray, .int .i64 n] w0 fun v w' => v = .agg (bv (join 31 [secOf s n])).toArray ∧ Below w0.heap.size w0 w' := by
  refine enter Try.func83 rfl Try.ntmps83 (Nat.le_of_ble_eq_true rfl) ?_
  have S := St.init w0
  refine s_seq (s_plain ?_)
  refine p_does (d_boxA S rfl) rfl ?_
  rintro _ w ⟨b1, rfl, S⟩
  refine p_does (d_allocA S zv29) rfl ?_
  rintro _ w ⟨b2, rfl, S⟩
  refine p_nil (x_then (s_seq (s_plain ?_)))
  refine p_val (e_loadEx rfl ag29 sz29 S 1 rfl rfl (by simp [hs])) rfl ?_
  refine p_val (e_move (v := .int _ _) rfl) rfl ?_
  refine p_does (d_call Try.func82 nm82 rfl rfl (secOf_calls _ s n hs)) rfl ?_
  rintro _ w ⟨rfl, hB⟩
  have S := S.below hB
  refine p_does (d_call Try.func81 nm81 rfl rfl (shash_calls _ _ (length_secOf s n))) rfl ?_
  rintro _ w ⟨rfl, hB⟩
  have S := S.below hB
  refine p_does (d_storeW S 0 rfl rfl (bv_one _) sz29 (by simp [length_join]) rfl rfl (by rfl)) rfl ?_
  intro _ w S
  refine p_nil (x_then (s_ret ?_))
  exact postC Try.results83 S 0 rfl rfl rfl ag29 sz29 (by simp [length_join]) ⟨rfl, S.to_below⟩
theorem put_calls (w0 : World) (hb : Nat) (k : Option Nat) (n c : Nat) (L : List (List Nat)) (x h : List Nat) (hx : x.length = 32) (hh : h.length = 32) (hn : n ≤ 1000)
    (S0 : St w0 w0 (exOf [some hb, k]) [some hb, k] [Ex #[.slice (at_ k) n c] 26, Rw 29 32 n c (sv L)]) :
    Ret Try.prog 20 [.pointer (some ⟨hb, 0, none⟩), .agg (bv x).toArray, .agg (bv h).toArray] w0 fun v w' => ∃ k' c', v = .int .i64 (if join 31 [x] = h then 0 else 16) ∧
      St w0 w' (exOf [some hb, k]) [some hb, k'] [Ex #[.slice (at_ k') (if join 31 [x] = h then n + 1 else n) c'] 26, Rw 29 32 (if join 31 [x] = h then n + 1 else n) c' (sv (if join 31 [x] = h then L ++ [x] else L))] := by
  refine enter Try.func20 rfl Try.ntmps20 (Nat.le_of_ble_eq_true rfl) ?_
  have S := S0
  refine s_seq (s_plain ?_)
  refine p_does (d_boxA S rfl) rfl ?_
  rintro _ w ⟨b1, rfl, S⟩
  refine p_does (d_boxA S rfl) rfl ?_
  rintro _ w ⟨b2, rfl, S⟩
  refine p_val (e_assign (v := .int _ _) rfl) rfl ?_
  refine p_nil (x_then (s_seq (s_block (s_seq (s_plain ?_)))))
  refine p_val (e_move (v := .pointer _) rfl) rfl ?_
  refine p_val (e_eqlP rfl rfl Try.underlying23) rfl ?_
  refine p_val (e_assign (v := .bool _) rfl) rfl ?_
  refine p_nil (x_then ?_)
  refine s_condb rfl (fun hc1 => ?_) (fun hc1 => ?_)
  · refine s_seq (s_plain ?_)
    refine p_val (e_assign (v := .int _ _) rfl) rfl ?_
    refine p_nil (x_then (s_ret (x_in_ret (x_then_ret ?_))))
    exact post1 (v := .int _ _) Try.results20 rfl (by simp at hc1)
  · refine s_seq ?_
    refine s_draw [(true, 0), (true, 2), (false, 1), (true, 3), (true, 4)] (fun w' => St w0 w' (exOf [some hb, k]) [some b2, some b1] [Ex (bv h).toArray 29, Ex (bv x).toArray 29]) mixed (by kernel_rfl) (by repeat (first | exact Calm.post _ _ _ | refine Calm.then ?_ _ | refine Calm.inB ?_ _)) ?_
    have S := S.drew
    have hS := S.pick [0, 1] (by decide) (by simp) (by simp)
    refine q_val (fun w hS => e_loadEx rfl ag29 sz29 hS 1 rfl rfl (by simp [hx])) rfl hS ?_
    refine q_val (fun w hS => e_loadEx rfl ag29 sz29 hS 0 rfl rfl (by simp [hh])) rfl hS ?_
    refine q_does (d_call Try.func81 nm81 rfl rfl (shash_calls _ x hx)) rfl ?_
    rintro _ w ⟨rfl, hB⟩
    have S := S.below hB; have hS := S.pick [0, 1] (by decide) (by simp) (by simp); refine ⟨hS, ?_⟩
    refine q_val (fun w hS => EqT.sumN eq29 gd29 rfl rfl (length_join _ _) (hh)) rfl hS ?_
    refine q_val (fun w hS => e_assign (v := .bool _) rfl) rfl hS ?_
    refine q_nil (x_then ?_)
    refine s_cond rfl (fun hc2 => ?_) (fun hc2 => ?_)
    · refine s_seq (s_plain ?_)
      refine p_val (e_assign (v := .int _ _) rfl) rfl ?_
      refine p_nil (x_then (s_ret (x_in_ret (x_then_ret ?_))))
      exact post1 (v := .int _ _) Try.results20 rfl ⟨k, c, by rw [if_neg hc2], by rw [if_neg hc2, if_neg hc2]; exact S.pick [2, 3] (by decide) (by simp) (by simp)⟩
    · refine s_seq (s_plain ?_)
      refine p_val (e_move (v := .pointer _) rfl) rfl ?_
      refine p_val (e_nil rfl rfl) rfl ?_
      refine p_val (e_field rfl Try.underlying26 rfl sz24 (by decide)) rfl ?_
      refine p_val (e_load rfl ag24 ((S.cell 2 rfl rfl _).trans (rfl))) rfl ?_
      refine p_val (e_len rfl Try.underlying24) rfl ?_
      refine p_val (e_gtr rfl rfl) rfl ?_
      refine p_val (e_assign (v := .bool _) rfl) rfl ?_
      refine p_nil (x_then ?_)
      refine s_cond rfl (fun hc3 => ?_) (fun hc3 => ?_)
      · refine s_seq (s_plain ?_)
        refine p_val (e_assign (v := .int _ _) rfl) rfl ?_
        refine p_nil (x_then (s_ret (x_in_ret (x_then_ret ?_))))
        exact post1 (v := .int _ _) Try.results20 rfl (by omega)
      · refine s_skip (x_in (x_then (s_seq ?_)))
        refine s_drawZ [(true, 0), (true, 1), (true, 2), (true, 3), (true, 4), (true, 5), (false, 6), (false, 7)] [8] [8, 9, 10] (fun w' => St w0 w' (exOf [some hb, k]) [some b2, some b1, some hb] [Ex (bv h).toArray 29, Ex (bv x).toArray 29, Ex #[.slice (at_ k) n c] 26]) mixed (by kernel_rfl) (by repeat (first | exact Calm.post _ _ _ | refine Calm.then ?_ _ | refine Calm.inB ?_ _)) ?_
        have S := S.drew
        have hS := S.pick [0, 1, 2] (by decide) (by simp) (by simp)
        refine q_val (fun w hS => e_move (v := .pointer _) rfl) rfl hS ?_
        refine q_val (fun w hS => e_move (v := .pointer _) rfl) rfl hS ?_
        refine q_val (fun w hS => e_nil rfl rfl) rfl hS ?_
        refine q_val (fun w hS => e_field rfl Try.underlying26 rfl sz24 (by decide)) rfl hS ?_
        refine q_val (fun w hS => e_load rfl ag24 ((hS.cell 2 rfl rfl _).trans (rfl))) rfl hS ?_
        refine q_val (fun w hS => e_loadEx rfl ag29 sz29 hS 1 rfl rfl (by simp [hx])) rfl hS ?_
        refine q_does (d_litS S Try.underlying24 sz29 zv29 rfl (L := [_]) rfl rfl (All32.single hx) (by decide)) rfl ?_
        rintro _ w ⟨b3, rfl, S⟩; have hS := S.pick [1, 2, 3] (by decide) (by simp) (by simp); refine ⟨hS, ?_⟩
        refine q_does (d_append S 4 rfl rfl Try.underlying24 el29 rfl rfl (S.rdRw 0 rfl rfl) (sv_one _) (by omega) (by unfold maxLen; omega)) rfl ?_
        rintro _ w ⟨k29, c29, rfl, S⟩; have hS := S.pick [1, 2, 3] (by decide) (by simp) (by simp); refine ⟨hS, ?_⟩
        refine q_nil ?_
        refine p_val (e_nil rfl rfl) rfl ?_
        refine p_val (e_field rfl Try.underlying26 rfl sz24 (by decide)) rfl ?_
        refine p_does (d_store1 (v := .slice _ _ _) S 3 rfl rfl rfl sz24 rfl rfl (by simp)) rfl ?_
        intro _ w S
        refine p_nil (x_then (s_seq (s_plain ?_)))
        refine p_val (e_assign (v := .int _ _) rfl) rfl ?_
        refine p_nil (x_then (s_ret ?_))
        exact post1 (v := .int _ _) Try.results20 rfl ⟨k29, c29, by rw [if_pos (Classical.not_not.1 hc2)], by rw [if_pos (Classical.not_not.1 hc2), if_pos (Classical.not_not.1 hc2), sv_append]; exact S.pick [3, 4] (by decide) (by simp) (by simp)⟩
end Go.Proofs.Ytdhfiamgmokfbaa
