/- Own texts, one behind the other: walks and laws that the statement needs. They prove no statement by themselves. -/
import Derived.Test.YtdhfiamgmokfbaaZP19c2
import Derived.Test.YtdhfiamgmokfbaaZP19c1
/- SHA-256's spread: a block's 64 words. It proves no statement by itself. -/
set_option linter.unusedSimpArgs false
set_option linter.unusedVariables false
namespace Go.Proofs.Ytdhfiamgmokfbaa
open Go Go.RowKit E
theorem wrap32_byte (x : Nat) : IntKind.u32.wrap (x : Int) = ((x % 4294967296 : Nat) : Int) := wrap32_nat x
theorem spread_step1 {w0 w : World} {b1 b2 : Nat} {b : List Nat} {i t : Nat} {p : Option Obj → Prop}
    (S : St w0 w [] [some b2, some b1] ([Ex (wv (sp1 b i)).toArray t, p].set 0 (Ex ((wv (sp1 b i)).toArray.setIfInBounds ((i : Int).toNat * 1) (.int .u32 ((or32 (or32 (or32 (shl32 (b.getD (4 * (i : Int)).toNat 0 % 4294967296) 24) (shl32 (b.getD (4 * (i : Int) + 1).toNat 0 % 4294967296) 16)) (shl32 (b.getD (4 * (i : Int) + 2).toNat 0 % 4294967296) 8)) (b.getD (4 * (i : Int) + 3).toNat 0 % 4294967296) : Nat) : Int))) t))) :
    St w0 w [] [some b2, some b1] [Ex (wv (sp1 b (i + 1))).toArray t, p] := by
  rw [wv_set, show ((i : Int).toNat * 1) = i by simp, show (4 * (i : Int)).toNat = 4 * i by omega, show (4 * (i : Int) + 1).toNat = 4 * i + 1 by omega, show (4 * (i : Int) + 2).toNat = 4 * i + 2 by omega, show (4 * (i : Int) + 3).toNat = 4 * i + 3 by omega] at S
  exact S
theorem spread_step2 {w0 w : World} {b1 b2 : Nat} {b : List Nat} {k t : Nat} {p : Option Obj → Prop}
    (S : St w0 w [] [some b2, some b1] ([Ex (wv (sp2 b k)).toArray t, p].set 0 (Ex ((wv (sp2 b k)).toArray.setIfInBounds (((16 + k : Nat) : Int).toNat * 1) (.int .u32 ((add32 (add32 (add32 ((sp2 b k).getD ((((16 + k : Nat) : Int) - 16).toNat * 1) 0) (xor32 (xor32 (rotr 7 ((sp2 b k).getD ((((16 + k : Nat) : Int) - 15).toNat * 1) 0)) (rotr 18 ((sp2 b k).getD ((((16 + k : Nat) : Int) - 15).toNat * 1) 0))) (shr32 ((sp2 b k).getD ((((16 + k : Nat) : Int) - 15).toNat * 1) 0) 3))) ((sp2 b k).getD ((((16 + k : Nat) : Int) - 7).toNat * 1) 0)) (xor32 (xor32 (rotr 17 ((sp2 b k).getD ((((16 + k : Nat) : Int) - 2).toNat * 1) 0)) (rotr 19 ((sp2 b k).getD ((((16 + k : Nat) : Int) - 2).toNat * 1) 0))) (shr32 ((sp2 b k).getD ((((16 + k : Nat) : Int) - 2).toNat * 1) 0) 10)) : Nat) : Int))) t))) :
    St w0 w [] [some b2, some b1] [Ex (wv (sp2 b (k + 1))).toArray t, p] := by
  rw [wv_set, show (((16 + k : Nat) : Int).toNat * 1) = 16 + k by omega, show ((((16 + k : Nat) : Int) - 16).toNat * 1) = 16 + k - 16 by omega, show ((((16 + k : Nat) : Int) - 15).toNat * 1) = 16 + k - 15 by omega, show ((((16 + k : Nat) : Int) - 7).toNat * 1) = 16 + k - 7 by omega, show ((((16 + k : Nat) : Int) - 2).toNat * 1) = 16 + k - 2 by omega] at S
  exact S
set_option maxRecDepth 100000 in
theorem spread_calls (w0 : World) (ad : Addr) (c : Nat) (b : List Nat) (R : Rd w0 1 (some ad) 64 (bv b)) :
    Ret Try.prog 109 [.slice (some ad) 64 c] w0 fun v w' => v = .agg (wv (spread b)).toArray ∧ Below w0.heap.size w0 w' := by
  have hb : b.length = 64 := by simpa using R.1
  refine enter Try.func109 rfl Try.ntmps109 (Nat.le_of_ble_eq_true rfl) ?_
  have S := St.init w0
  refine s_seq (s_plain ?_)
  refine p_does (d_allocA S zv137) rfl ?_
  rintro _ w ⟨b1, rfl, S⟩
  refine p_nil (x_then (s_seq (s_plain ?_)))
  refine p_does (d_allocA S zv137) rfl ?_
  rintro _ w ⟨b2, rfl, S⟩
  refine p_nil (x_then (s_seq (s_seq (s_plain ?_))))
  refine p_val (e_move (v := .int _ _) rfl) rfl ?_
  refine p_nil (x_then (s_block ?_))
  refine s_loop (α := Nat) (fun g f' w' => ∃ u, f' = upds u [(0, .slice (some ad) 64 c), (2, .pointer (some ⟨b1, 0, none⟩)), (3, .pointer (some ⟨b2, 0, none⟩)), (10, .int .i64 (g : Int))] ∧ g ≤ 16 ∧ St w0 w' [] [some b2, some b1] [Ex (wv (sp1 b g)).toArray 137, Ex zl137.toArray 137]) (fun g => 16 - g) (0) (⟨_, upds_eq ⟨rfl, rfl, rfl, rfl, trivial⟩, by omega, S⟩) ?_
  rintro i f w ⟨u, rfl, hi, S⟩
  refine s_seq (s_plain ?_)
  refine p_val (e_lss rfl rfl) rfl ?_
  refine p_nil (x_then (s_seq ?_))
  refine s_cond rfl (fun hc => ?_) (fun hc => ?_)
  · refine s_skip (x_then (s_seq (s_block (s_seq (s_plain ?_)))))
    refine p_val (e_move (v := .int _ _) rfl) rfl ?_
    refine p_val (e_assign (v := .int _ _) rfl) rfl ?_
    refine p_nil (x_then ?_)
    refine s_draw [(true, 0), (true, 1), (true, 2), (true, 3), (true, 4), (true, 5), (true, 6), (true, 7), (true, 8), (true, 9), (true, 10), (true, 11), (true, 12), (true, 13), (true, 14), (true, 15), (true, 16), (true, 17), (true, 18), (true, 19), (true, 20), (true, 21), (true, 22), (true, 23), (true, 24), (true, 25), (true, 26), (true, 27), (true, 28), (true, 29), (true, 30), (true, 31), (true, 32), (true, 33), (true, 34), (false, 35)] (fun w' => St w0 w' [] [] []) mixed (by kernel_rfl) (by repeat (first | exact Calm.post _ _ _ | refine Calm.then ?_ _ | refine Calm.inB ?_ _)) ?_
    have S := S.drew
    have hS := S.tail.tail
    refine q_val (fun w hS => e_move (v := .int _ _) rfl) rfl hS ?_
    refine q_val (fun w hS => e_move (v := .slice _ _ _) rfl) rfl hS ?_
    refine q_val (fun w hS => e_move (v := .int _ _) rfl) rfl hS ?_
    refine q_val (fun w hS => e_mul64 rfl rfl (by omega)) rfl hS ?_
    refine q_val (fun w hS => e_ix_sl rfl rfl Try.underlying33 sz5 (by omega)) rfl hS ?_
    refine q_val (fun w hS => e_load rfl ag5 (hS.rdOld R rfl |>.byte (by omega))) rfl hS ?_
    refine q_val (fun w hS => e_conv_in rfl Try.underlying5 (by simp) Try.underlying133 (wrap32_byte _)) rfl hS ?_
    refine q_val (fun w hS => e_shl32 24 rfl rfl (by decide)) rfl hS ?_
    refine q_val (fun w hS => e_move (v := .slice _ _ _) rfl) rfl hS ?_
    refine q_val (fun w hS => e_move (v := .int _ _) rfl) rfl hS ?_
    refine q_val (fun w hS => e_mul64 rfl rfl (by omega)) rfl hS ?_
    refine q_val (fun w hS => e_add64 rfl rfl (by omega)) rfl hS ?_
    refine q_val (fun w hS => e_ix_sl rfl rfl Try.underlying33 sz5 (by omega)) rfl hS ?_
    refine q_val (fun w hS => e_load rfl ag5 (hS.rdOld R rfl |>.byte (by omega))) rfl hS ?_
    refine q_val (fun w hS => e_conv_in rfl Try.underlying5 (by simp) Try.underlying133 (wrap32_byte _)) rfl hS ?_
    refine q_val (fun w hS => e_shl32 16 rfl rfl (by decide)) rfl hS ?_
    refine q_val (fun w hS => e_or32 rfl rfl) rfl hS ?_
    refine q_val (fun w hS => e_move (v := .slice _ _ _) rfl) rfl hS ?_
    refine q_val (fun w hS => e_move (v := .int _ _) rfl) rfl hS ?_
    refine q_val (fun w hS => e_mul64 rfl rfl (by omega)) rfl hS ?_
    refine q_val (fun w hS => e_add64 rfl rfl (by omega)) rfl hS ?_
    refine q_val (fun w hS => e_ix_sl rfl rfl Try.underlying33 sz5 (by omega)) rfl hS ?_
    refine q_val (fun w hS => e_load rfl ag5 (hS.rdOld R rfl |>.byte (by omega))) rfl hS ?_
    refine q_val (fun w hS => e_conv_in rfl Try.underlying5 (by simp) Try.underlying133 (wrap32_byte _)) rfl hS ?_
    refine q_val (fun w hS => e_shl32 8 rfl rfl (by decide)) rfl hS ?_
    refine q_val (fun w hS => e_or32 rfl rfl) rfl hS ?_
    refine q_val (fun w hS => e_move (v := .slice _ _ _) rfl) rfl hS ?_
    refine q_val (fun w hS => e_move (v := .int _ _) rfl) rfl hS ?_
    refine q_val (fun w hS => e_mul64 rfl rfl (by omega)) rfl hS ?_
    refine q_val (fun w hS => e_add64 rfl rfl (by omega)) rfl hS ?_
    refine q_val (fun w hS => e_ix_sl rfl rfl Try.underlying33 sz5 (by omega)) rfl hS ?_
    refine q_val (fun w hS => e_load rfl ag5 (hS.rdOld R rfl |>.byte (by omega))) rfl hS ?_
    refine q_val (fun w hS => e_conv_in rfl Try.underlying5 (by simp) Try.underlying133 (wrap32_byte _)) rfl hS ?_
    refine q_val (fun w hS => e_or32 rfl rfl) rfl hS ?_
    refine q_val (fun w hS => e_ix_arr rfl rfl Try.underlying137 sz133 (by omega)) rfl hS ?_
    refine q_does (d_store1 (v := .int _ _) S 0 rfl rfl rfl sz133 rfl rfl (by simp [length_sp1]; omega)) rfl ?_
    intro _ w S; refine ⟨S.tail.tail, ?_⟩
    refine q_nil (x_in (x_then (s_plain ?_)))
    refine p_val (e_add64 rfl rfl (by omega)) rfl ?_
    refine p_val (e_move (v := .int _ _) rfl) rfl ?_
    refine p_nil ?_
    refine x_round (i + 1) _ rfl ⟨_, upds_eq ⟨rfl, rfl, rfl, rfl, trivial⟩, by omega, spread_step1 S⟩ (by omega)
  · refine s_exit (x_then_exit (x_then_exit (x_in_same (x_then (s_seq (s_seq (s_plain ?_)))))))
    refine p_val (e_assign (v := .int _ _) rfl) rfl ?_
    refine p_nil (x_then (s_block ?_))
    refine s_loop (α := Nat) (fun g f' w' => ∃ u, f' = upds u [(0, .slice (some ad) 64 c), (2, .pointer (some ⟨b1, 0, none⟩)), (3, .pointer (some ⟨b2, 0, none⟩)), (5, .int .i64 ((16 + g : Nat) : Int))] ∧ g ≤ 48 ∧ St w0 w' [] [some b2, some b1] [Ex (wv (sp2 b g)).toArray 137, Ex zl137.toArray 137]) (fun g => 48 - g) (0) (⟨_, upds_eq ⟨rfl, rfl, rfl, rfl, trivial⟩, by omega, by obtain rfl : i = 16 := (by omega); exact S⟩) ?_
    rintro k f w ⟨u, rfl, hk, S⟩
    refine s_seq (s_seq (s_plain ?_))
    refine p_val (e_move (v := .int _ _) rfl) rfl ?_
    refine p_val (e_lss rfl rfl) rfl ?_
    refine p_nil (x_then ?_)
    refine s_cond rfl (fun hc => ?_) (fun hc => ?_)
    · refine s_skip (x_then (s_seq (s_block (s_seq ?_))))
      refine s_draw [(true, 0), (true, 1), (true, 2), (true, 3), (true, 4), (true, 5), (true, 6), (true, 7), (true, 8), (true, 9)] (fun w' => St w0 w' [] [some b2, some b1] [Ex (wv (sp2 b k)).toArray 137, Ex zl137.toArray 137]) mixed (by kernel_rfl) (by repeat (first | exact Calm.post _ _ _ | refine Calm.then ?_ _ | refine Calm.inB ?_ _)) ?_
      have S := S.drew
      have hS := S
      refine q_val (fun w hS => e_move (v := .int _ _) rfl) rfl hS ?_
      refine q_val (fun w hS => e_sub64 rfl rfl (by omega)) rfl hS ?_
      refine q_val (fun w hS => e_ix_arr rfl rfl Try.underlying137 sz133 (by omega)) rfl hS ?_
      refine q_val (fun w hS => e_load rfl ag133 ((hS.cell 0 rfl rfl _).trans (wv_getA (by rw [length_sp2]; omega)))) rfl hS ?_
      refine q_val (fun w hS => e_move (v := .int _ _) rfl) rfl hS ?_
      refine q_val (fun w hS => e_sub64 rfl rfl (by omega)) rfl hS ?_
      refine q_val (fun w hS => e_ix_arr rfl rfl Try.underlying137 sz133 (by omega)) rfl hS ?_
      refine q_val (fun w hS => e_load rfl ag133 ((hS.cell 0 rfl rfl _).trans (wv_getA (by rw [length_sp2]; omega)))) rfl hS ?_
      refine q_val (fun w hS => e_assign (v := .int _ _) rfl) rfl hS ?_
      refine q_val (fun w hS => e_assign (v := .int _ _) rfl) rfl hS ?_
      refine q_nil (x_then (s_seq (s_plain ?_)))
      refine p_val (e_move (v := .int _ _) rfl) rfl ?_
      refine p_does (d_call Try.func110 nm110 rfl rfl (rot_any _ 25 (-7) _ (by decide) (by decide))) rfl ?_
      rintro _ _ ⟨rfl, rfl⟩
      refine p_val (e_move (v := .int _ _) rfl) rfl ?_
      refine p_does (d_call Try.func110 nm110 rfl rfl (rot_any _ 14 (-18) _ (by decide) (by decide))) rfl ?_
      rintro _ _ ⟨rfl, rfl⟩
      refine p_val (e_xor32 rfl rfl) rfl ?_
      refine p_val (e_move (v := .int _ _) rfl) rfl ?_
      refine p_val (e_shr32 3 rfl rfl (by decide)) rfl ?_
      refine p_val (e_xor32 rfl rfl) rfl ?_
      refine p_val (e_assign (v := .int _ _) rfl) rfl ?_
      refine p_nil (x_then (s_seq (s_plain ?_)))
      refine p_val (e_move (v := .int _ _) rfl) rfl ?_
      refine p_does (d_call Try.func110 nm110 rfl rfl (rot_any _ 15 (-17) _ (by decide) (by decide))) rfl ?_
      rintro _ _ ⟨rfl, rfl⟩
      refine p_val (e_move (v := .int _ _) rfl) rfl ?_
      refine p_does (d_call Try.func110 nm110 rfl rfl (rot_any _ 13 (-19) _ (by decide) (by decide))) rfl ?_
      rintro _ _ ⟨rfl, rfl⟩
      refine p_val (e_xor32 rfl rfl) rfl ?_
      refine p_val (e_move (v := .int _ _) rfl) rfl ?_
      refine p_val (e_shr32 10 rfl rfl (by decide)) rfl ?_
      refine p_val (e_xor32 rfl rfl) rfl ?_
      refine p_val (e_assign (v := .int _ _) rfl) rfl ?_
      refine p_nil (x_then ?_)
      refine s_draw [(true, 0), (true, 1), (true, 2), (true, 3), (true, 4), (true, 5), (true, 6), (true, 7), (true, 8), (true, 9), (true, 10), (true, 11), (true, 12), (true, 13), (true, 14), (false, 15)] (fun w' => ∀ j, j < 16 + k → w'.cell? ((⟨b2, 0, none⟩ : Addr).add j) = some (.int .u32 ((sp2 b k).getD j 0 : Int))) mixed (by kernel_rfl) (by repeat (first | exact Calm.post _ _ _ | refine Calm.then ?_ _ | refine Calm.inB ?_ _)) ?_
      have S := S.drew
      have hS := fun j (hj : j < 16 + k) => (S.cell 0 rfl rfl j).trans (wv_getA (by rw [length_sp2]; omega))
      refine q_val (fun w hS => e_move (v := .int _ _) rfl) rfl hS ?_
      refine q_val (fun w hS => e_move (v := .int _ _) rfl) rfl hS ?_
      refine q_val (fun w hS => e_sub64 rfl rfl (by omega)) rfl hS ?_
      refine q_val (fun w hS => e_ix_arr rfl rfl Try.underlying137 sz133 (by omega)) rfl hS ?_
      refine q_val (fun w hS => e_load rfl ag133 (hS _ (by omega))) rfl hS ?_
      refine q_val (fun w hS => e_move (v := .int _ _) rfl) rfl hS ?_
      refine q_val (fun w hS => e_add32 rfl rfl) rfl hS ?_
      refine q_val (fun w hS => e_move (v := .int _ _) rfl) rfl hS ?_
      refine q_val (fun w hS => e_sub64 rfl rfl (by omega)) rfl hS ?_
      refine q_val (fun w hS => e_ix_arr rfl rfl Try.underlying137 sz133 (by omega)) rfl hS ?_
      refine q_val (fun w hS => e_load rfl ag133 (hS _ (by omega))) rfl hS ?_
      refine q_val (fun w hS => e_add32 rfl rfl) rfl hS ?_
      refine q_val (fun w hS => e_move (v := .int _ _) rfl) rfl hS ?_
      refine q_val (fun w hS => e_add32 rfl rfl) rfl hS ?_
      refine q_val (fun w hS => e_ix_arr rfl rfl Try.underlying137 sz133 (by omega)) rfl hS ?_
      refine q_does (d_store1 (v := .int _ _) S 0 rfl rfl rfl sz133 rfl rfl (by simp [length_sp2]; omega)) rfl ?_
      intro _ w S; refine ⟨fun j hj => (S.cell 0 rfl rfl j).trans (by rw [Array.getElem?_setIfInBounds_ne (by omega)]; exact wv_getA (by rw [length_sp2]; omega)), ?_⟩
      refine q_nil (x_in (x_then (s_plain ?_)))
      refine p_val (e_move (v := .int _ _) rfl) rfl ?_
      refine p_val (e_add64 rfl rfl (by omega)) rfl ?_
      refine p_val (e_assign (v := .int _ _) rfl) rfl ?_
      refine p_nil ?_
      refine x_round (k + 1) _ rfl ⟨_, upds_eq ⟨rfl, rfl, rfl, rfl, trivial⟩, by omega, spread_step2 S⟩ (by omega)
    · refine s_exit (x_then_exit (x_then_exit (x_in_same (x_then (s_seq (s_plain ?_))))))
      obtain rfl : k = 48 := by omega
      refine p_val (e_loadN (cs := wv (sp2 b 48)) rfl ag137 sz137 (by simp [length_sp2]) (fun j u hu => (S.cell 0 rfl rfl _).trans (by simpa using hu))) rfl ?_
      refine p_does (d_storeW S 1 rfl rfl (wv_one _) sz137 (by simp [length_sp2]) rfl rfl (by rfl)) rfl ?_
      intro _ w S
      refine p_nil (x_then (s_ret ?_))
      exact postC Try.results109 S 1 rfl rfl rfl ag137 sz137 (by simp [length_sp2]) ⟨rfl, S.to_below⟩
end Go.Proofs.Ytdhfiamgmokfbaa

/- SHA-256's beginnings, constants and rounds. It proves no statement by itself. -/
set_option linter.unusedSimpArgs false
set_option linter.unusedVariables false
set_option maxRecDepth 100000
set_option maxHeartbeats 1000000
namespace Go.Proofs.Ytdhfiamgmokfbaa
open Go Go.RowKit E
theorem rounds_calls (w0 : World) : Ret Try.prog 98 [] w0 fun v w' => v = .agg (wv K).toArray ∧ Below w0.heap.size w0 w' := by
  refine enter Try.func98 rfl Try.ntmps98 (Nat.le_of_ble_eq_true rfl) ?_
  have S := St.init w0
  refine s_seq (s_plain ?_)
  refine p_does (d_allocA S zv137) rfl ?_
  rintro _ w ⟨b1, rfl, S⟩
  refine p_nil (x_then (s_seq (s_plain ?_)))
  refine p_val (e_build (cs := wv K) (by kernel_rfl)) rfl ?_
  refine p_does (d_storeW S 0 rfl rfl (wv_one _) sz137 (by rfl) rfl rfl (by rfl)) rfl ?_
  intro _ w S
  refine p_nil (x_then (s_ret ?_))
  exact postC Try.results98 S 0 rfl rfl rfl ag137 sz137 (by rfl) ⟨rfl, S.to_below⟩
theorem first_calls (w0 : World) : Ret Try.prog 97 [] w0 fun v w' => v = .agg (wv (s8 first)).toArray ∧ Below w0.heap.size w0 w' := by
  refine enter Try.func97 rfl Try.ntmps97 (Nat.le_of_ble_eq_true rfl) ?_
  have S := St.init w0
  refine s_seq (s_plain ?_)
  refine p_does (d_allocA S zv135) rfl ?_
  rintro _ w ⟨b1, rfl, S⟩
  refine p_nil (x_then (s_seq (s_plain ?_)))
  refine p_val (e_build (cs := wv (s8 first)) (by kernel_rfl)) rfl ?_
  refine p_does (d_storeW S 0 rfl rfl (wv_one _) sz135 (by rfl) rfl rfl (by rfl)) rfl ?_
  intro _ w S
  refine p_nil (x_then (s_ret ?_))
  exact postC Try.results97 S 0 rfl rfl rfl ag135 sz135 (by rfl) ⟨rfl, S.to_below⟩
theorem block_calls (w0 : World) (hp kb : Nat) (ad : Addr) (c : Nat) (h : St8) (b : List Nat) (fr : Nat × Nat) (hh : w0.heap[hp]? = some (.cells (wv (s8 h)).toArray 135 (0, 0))) (hk : w0.heap[kb]? = some (.cells (wv K).toArray 137 fr)) (hne : kb ≠ hp) (R : Rd w0 1 (some ad) 64 (bv b)) :
    Ret Try.prog 100 [.pointer (some ⟨hp, 0, none⟩), .slice (some ad) 64 c, .pointer (some ⟨kb, 0, none⟩)] w0 fun v w' => St w0 w' [hp] [some hp] [Ex (wv (s8 (block h b))).toArray 135] := by
  refine enter Try.func100 rfl Try.ntmps100 (Nat.le_of_ble_eq_true rfl) ?_
  have S := St.init1 (Ex (wv (s8 h)).toArray 135) hh rfl
  refine s_seq (s_plain ?_)
  refine p_val (e_move (v := .slice _ _ _) rfl) rfl ?_
  refine p_does (d_call Try.func109 nm109 rfl rfl (spread_calls w0 ad c b R)) rfl ?_
  rintro _ w ⟨rfl, hB⟩
  have S := S.below hB
  obtain ⟨ws, hW⟩ : ∃ ws, ws = spread b := ⟨_, rfl⟩
  have hws : ws.length = 64 := by rw [hW, length_spread]
  rw [← hW]
  refine p_does (d_allocA S zv137) rfl ?_
  rintro _ w ⟨b1, rfl, S⟩
  refine p_does (d_storeW S 0 rfl rfl (wv_one _) sz137 (by simp only [List.size_toArray, wv_length, hws]) rfl rfl (by rfl)) rfl ?_
  intro _ w S
  refine p_nil (x_then (s_seq (s_plain ?_)))
  refine p_val (e_move (v := .pointer _) rfl) rfl ?_
  refine p_val (e_nil rfl rfl) rfl ?_
  refine p_val (e_loadN (cs := wv (s8 h)) rfl ag135 sz135 (by rfl) (fun j u hu => (S.cell 1 rfl rfl _).trans (by simpa using hu))) rfl ?_
  refine p_does (d_allocA S zv135) rfl ?_
  rintro _ w ⟨b2, rfl, S⟩
  refine p_does (d_storeW S 0 rfl rfl (wv_one _) sz135 (by rfl) rfl rfl (by rfl)) rfl ?_
  intro _ w S
  refine p_nil (x_then (s_seq (s_seq (s_plain ?_))))
  refine p_val (e_move (v := .int _ _) rfl) rfl ?_
  refine p_nil (x_then (s_block ?_))
  refine s_loop (α := Nat) (fun g f' w' => ∃ u v, f' = upds u [(0, .pointer (some ⟨hp, 0, none⟩)), (2, .pointer (some ⟨kb, 0, none⟩)), (6, .pointer (some ⟨b1, 0, none⟩)), (7, .pointer (some ⟨b2, 0, none⟩)), (20, .int .i64 (g : Int))] ∧ g ≤ 64 ∧ v = rounds ws h g ∧ St w0 w' [hp] [some b2, some b1, some hp] [Ex (wv (s8 v)).toArray 135, Ex (wv ws).toArray 137, Ex (wv (s8 h)).toArray 135]) (fun g => 64 - g) (0) (⟨_, _, upds_eq ⟨rfl, rfl, rfl, rfl, rfl, trivial⟩, by omega, rfl, S⟩) ?_
  rintro i f w ⟨u, v, rfl, hi, hv, S⟩
  refine s_seq (s_plain ?_)
  refine p_val (e_lss rfl rfl) rfl ?_
  refine p_nil (x_then (s_seq ?_))
  refine s_cond rfl (fun hc => ?_) (fun hc => ?_)
  · refine s_skip (x_then (s_seq (s_block (s_seq (s_plain ?_)))))
    refine p_val (e_move (v := .int _ _) rfl) rfl ?_
    refine p_val (e_assign (v := .int _ _) rfl) rfl ?_
    refine p_nil (x_then (s_seq (s_plain ?_)))
    refine p_val (e_ix_arr rfl rfl Try.underlying135 sz133 (by omega)) rfl ?_
    refine p_val (e_load rfl ag133 ((S.cell 0 rfl rfl _).trans (rfl))) rfl ?_
    refine p_val (e_assign (v := .int _ _) rfl) rfl ?_
    refine p_nil (x_then (s_seq (s_plain ?_)))
    refine p_val (e_move (v := .int _ _) rfl) rfl ?_
    refine p_does (d_call Try.func110 nm110 rfl rfl (rot_any _ 26 (-6) _ (by decide) (by decide))) rfl ?_
    rintro _ _ ⟨rfl, rfl⟩
    refine p_val (e_move (v := .int _ _) rfl) rfl ?_
    refine p_does (d_call Try.func110 nm110 rfl rfl (rot_any _ 21 (-11) _ (by decide) (by decide))) rfl ?_
    rintro _ _ ⟨rfl, rfl⟩
    refine p_val (e_xor32 rfl rfl) rfl ?_
    refine p_val (e_move (v := .int _ _) rfl) rfl ?_
    refine p_does (d_call Try.func110 nm110 rfl rfl (rot_any _ 7 (-25) _ (by decide) (by decide))) rfl ?_
    rintro _ _ ⟨rfl, rfl⟩
    refine p_val (e_xor32 rfl rfl) rfl ?_
    refine p_val (e_assign (v := .int _ _) rfl) rfl ?_
    refine p_nil (x_then (s_seq ?_))
    refine s_draw [(true, 0), (true, 1), (true, 2), (true, 3), (true, 4), (true, 5), (true, 6), (true, 7), (true, 8), (true, 9), (true, 10), (true, 11), (true, 12), (true, 13), (true, 14), (true, 15), (true, 16), (true, 17), (true, 18), (true, 19), (true, 20), (true, 21), (true, 22), (true, 23), (true, 24), (true, 25)] (fun w' => St w0 w' [hp] [some b2, some b1, some hp] [Ex (wv (s8 v)).toArray 135, Ex (wv ws).toArray 137, Ex (wv (s8 h)).toArray 135]) mixed (by kernel_rfl) (by repeat (first | exact Calm.post _ _ _ | refine Calm.then ?_ _ | refine Calm.inB ?_ _)) ?_
    have S := S.drew
    have hS := S
    refine q_val (fun w hS => e_ix_arr rfl rfl Try.underlying135 sz133 (by omega)) rfl hS ?_
    refine q_val (fun w hS => e_load rfl ag133 ((hS.cell 0 rfl rfl _).trans (rfl))) rfl hS ?_
    refine q_val (fun w hS => e_move (v := .int _ _) rfl) rfl hS ?_
    refine q_val (fun w hS => e_add32 rfl rfl) rfl hS ?_
    refine q_val (fun w hS => e_move (v := .int _ _) rfl) rfl hS ?_
    refine q_val (fun w hS => e_ix_arr rfl rfl Try.underlying135 sz133 (by omega)) rfl hS ?_
    refine q_val (fun w hS => e_load rfl ag133 ((hS.cell 0 rfl rfl _).trans (rfl))) rfl hS ?_
    refine q_val (fun w hS => e_and32 rfl rfl) rfl hS ?_
    refine q_val (fun w hS => e_move (v := .int _ _) rfl) rfl hS ?_
    refine q_val (fun w hS => e_not32 rfl) rfl hS ?_
    refine q_val (fun w hS => e_ix_arr rfl rfl Try.underlying135 sz133 (by omega)) rfl hS ?_
    refine q_val (fun w hS => e_load rfl ag133 ((hS.cell 0 rfl rfl _).trans (rfl))) rfl hS ?_
    refine q_val (fun w hS => e_and32 rfl rfl) rfl hS ?_
    refine q_val (fun w hS => e_xor32 rfl rfl) rfl hS ?_
    refine q_val (fun w hS => e_add32 rfl rfl) rfl hS ?_
    refine q_val (fun w hS => e_move (v := .pointer _) rfl) rfl hS ?_
    refine q_val (fun w hS => e_move (v := .int _ _) rfl) rfl hS ?_
    refine q_val (fun w hS => e_nil rfl rfl) rfl hS ?_
    refine q_val (fun w hS => e_ix_arr rfl rfl Try.underlying137 sz133 (by omega)) rfl hS ?_
    refine q_val (fun w hS => e_load rfl ag133 ((hS.oldCell hk (by simpa using hne) _).trans (wv_getA (by simp only [K, List.length_cons, List.length_nil]; omega)))) rfl hS ?_
    refine q_val (fun w hS => e_add32 rfl rfl) rfl hS ?_
    refine q_val (fun w hS => e_move (v := .int _ _) rfl) rfl hS ?_
    refine q_val (fun w hS => e_ix_arr rfl rfl Try.underlying137 sz133 (by omega)) rfl hS ?_
    refine q_val (fun w hS => e_load rfl ag133 ((hS.cell 1 rfl rfl _).trans (wv_getA (by rw [hws]; omega)))) rfl hS ?_
    refine q_val (fun w hS => e_add32 rfl rfl) rfl hS ?_
    refine q_val (fun w hS => e_assign (v := .int _ _) rfl) rfl hS ?_
    refine q_nil (x_then (s_seq (s_plain ?_)))
    refine p_val (e_ix_arr rfl rfl Try.underlying135 sz133 (by omega)) rfl ?_
    refine p_val (e_load rfl ag133 ((S.cell 0 rfl rfl _).trans (rfl))) rfl ?_
    refine p_val (e_assign (v := .int _ _) rfl) rfl ?_
    refine p_nil (x_then (s_seq (s_plain ?_)))
    refine p_val (e_move (v := .int _ _) rfl) rfl ?_
    refine p_does (d_call Try.func110 nm110 rfl rfl (rot_any _ 30 (-2) _ (by decide) (by decide))) rfl ?_
    rintro _ _ ⟨rfl, rfl⟩
    refine p_val (e_move (v := .int _ _) rfl) rfl ?_
    refine p_does (d_call Try.func110 nm110 rfl rfl (rot_any _ 19 (-13) _ (by decide) (by decide))) rfl ?_
    rintro _ _ ⟨rfl, rfl⟩
    refine p_val (e_xor32 rfl rfl) rfl ?_
    refine p_val (e_move (v := .int _ _) rfl) rfl ?_
    refine p_does (d_call Try.func110 nm110 rfl rfl (rot_any _ 10 (-22) _ (by decide) (by decide))) rfl ?_
    rintro _ _ ⟨rfl, rfl⟩
    refine p_val (e_xor32 rfl rfl) rfl ?_
    refine p_val (e_assign (v := .int _ _) rfl) rfl ?_
    refine p_nil (x_then (s_seq (s_plain ?_)))
    refine p_val (e_move (v := .int _ _) rfl) rfl ?_
    refine p_val (e_move (v := .int _ _) rfl) rfl ?_
    refine p_val (e_ix_arr rfl rfl Try.underlying135 sz133 (by omega)) rfl ?_
    refine p_val (e_load rfl ag133 ((S.cell 0 rfl rfl _).trans (rfl))) rfl ?_
    refine p_val (e_and32 rfl rfl) rfl ?_
    refine p_val (e_move (v := .int _ _) rfl) rfl ?_
    refine p_val (e_ix_arr rfl rfl Try.underlying135 sz133 (by omega)) rfl ?_
    refine p_val (e_load rfl ag133 ((S.cell 0 rfl rfl _).trans (rfl))) rfl ?_
    refine p_val (e_and32 rfl rfl) rfl ?_
    refine p_val (e_xor32 rfl rfl) rfl ?_
    refine p_val (e_ix_arr rfl rfl Try.underlying135 sz133 (by omega)) rfl ?_
    refine p_val (e_load rfl ag133 ((S.cell 0 rfl rfl _).trans (rfl))) rfl ?_
    refine p_val (e_ix_arr rfl rfl Try.underlying135 sz133 (by omega)) rfl ?_
    refine p_val (e_load rfl ag133 ((S.cell 0 rfl rfl _).trans (rfl))) rfl ?_
    refine p_val (e_and32 rfl rfl) rfl ?_
    refine p_val (e_xor32 rfl rfl) rfl ?_
    refine p_val (e_add32 rfl rfl) rfl ?_
    refine p_val (e_assign (v := .int _ _) rfl) rfl ?_
    refine p_nil (x_then (s_seq ?_))
    refine s_draw [(true, 0), (true, 1), (false, 2)] (fun w' => St w0 w' [hp] [] []) mixed (by kernel_rfl) (by repeat (first | exact Calm.post _ _ _ | refine Calm.then ?_ _ | refine Calm.inB ?_ _)) ?_
    have S := S.drew
    have hS := S.none_
    refine q_val (fun w hS => e_sl_arr_l 1 rfl rfl rfl (by decide) Try.underlying135 sz133) rfl hS ?_
    refine q_val (fun w hS => e_sl_arr_h 7 rfl rfl rfl (by decide) Try.underlying135 sz133) rfl hS ?_
    refine q_does (d_copy S 0 rfl rfl Try.underlying162 (by kernel_rfl) rfl rfl ((S.rdEx 0 rfl rfl (n := 8) rfl).take (m := 7) (by decide)) ((by intro u hu; exact wv_one _ u (by simpa using List.mem_of_mem_take hu))) (by exact Nat.le_of_ble_eq_true rfl)) rfl ?_
    rintro _ w ⟨rfl, S⟩; refine ⟨S.none_, ?_⟩
    refine q_nil (x_then (s_seq (s_plain ?_)))
    refine p_val (e_ix_arr rfl rfl Try.underlying135 sz133 (by omega)) rfl ?_
    refine p_val (e_load rfl ag133 ((S.cell 0 rfl rfl _).trans (rfl))) rfl ?_
    refine p_val (e_move (v := .int _ _) rfl) rfl ?_
    refine p_val (e_add32 rfl rfl) rfl ?_
    refine p_val (e_ix_arr rfl rfl Try.underlying135 sz133 (by omega)) rfl ?_
    refine p_does (d_store1 (v := .int _ _) S 0 rfl rfl rfl sz133 rfl rfl (by exact Nat.le_of_ble_eq_true rfl)) rfl ?_
    intro _ w S
    refine p_nil (x_then (s_plain ?_))
    refine p_val (e_move (v := .int _ _) rfl) rfl ?_
    refine p_val (e_move (v := .int _ _) rfl) rfl ?_
    refine p_val (e_add32 rfl rfl) rfl ?_
    refine p_val (e_ix_arr rfl rfl Try.underlying135 sz133 (by omega)) rfl ?_
    refine p_does (d_store1 (v := .int _ _) S 0 rfl rfl rfl sz133 rfl rfl (by exact Nat.le_of_ble_eq_true rfl)) rfl ?_
    intro _ w S
    refine p_nil (x_in (x_then (s_plain ?_)))
    refine p_val (e_add64 rfl rfl (by omega)) rfl ?_
    refine p_val (e_move (v := .int _ _) rfl) rfl ?_
    refine p_nil ?_
    refine x_round (i + 1) _ rfl ⟨_, rnd v (K.getD i 0) (ws.getD i 0), upds_eq ⟨rfl, rfl, rfl, rfl, rfl, trivial⟩, by omega, by rw [hv]; rfl, by simp only [Int.toNat_natCast, Nat.mul_one] at S; exact S⟩ (by omega)
  · refine s_exit (x_then_exit (x_then_exit (x_in_same (x_then (s_seq (s_plain ?_))))))
    refine p_val (e_move (v := .int _ _) rfl) rfl ?_
    refine p_nil (x_then (s_block ?_))
    refine s_loop (α := Nat) (fun g f' w' => ∃ u l, f' = upds u [(0, .pointer (some ⟨hp, 0, none⟩)), (7, .pointer (some ⟨b2, 0, none⟩)), (98, .int .i64 (g : Int))] ∧ g ≤ 8 ∧ l = addTo (s8 h) (s8 v) g ∧ St w0 w' [hp] [some b2, some b1, some hp] [Ex (wv (s8 v)).toArray 135, Ex (wv ws).toArray 137, Ex (wv l).toArray 135]) (fun g => 8 - g) (0) (⟨_, s8 h, upds_eq ⟨rfl, rfl, rfl, trivial⟩, by omega, rfl, S⟩) ?_
    rintro k f w ⟨u, l, rfl, hk, hl, S⟩
    refine s_seq (s_plain ?_)
    refine p_val (e_lss rfl rfl) rfl ?_
    refine p_nil (x_then (s_seq ?_))
    refine s_cond rfl (fun hc => ?_) (fun hc => ?_)
    · refine s_skip (x_then (s_seq (s_block (s_seq (s_plain ?_)))))
      refine p_val (e_move (v := .int _ _) rfl) rfl ?_
      refine p_val (e_assign (v := .int _ _) rfl) rfl ?_
      refine p_nil (x_then ?_)
      refine s_draw [(true, 0), (true, 1), (true, 2), (true, 3), (true, 5), (true, 6), (true, 7), (true, 9), (false, 4), (true, 8), (true, 10), (false, 11)] (fun w' => St w0 w' [hp] [some b2] [Ex (wv (s8 v)).toArray 135]) mixed (by kernel_rfl) (by repeat (first | exact Calm.post _ _ _ | refine Calm.then ?_ _ | refine Calm.inB ?_ _)) ?_
      have S := S.drew
      have hS := S.head
      refine q_val (fun w hS => e_move (v := .pointer _) rfl) rfl hS ?_
      refine q_val (fun w hS => e_move (v := .int _ _) rfl) rfl hS ?_
      refine q_val (fun w hS => e_nil rfl rfl) rfl hS ?_
      refine q_val (fun w hS => e_ix_arr rfl rfl Try.underlying135 sz133 (by omega)) rfl hS ?_
      refine q_val (fun w hS => e_move (v := .int _ _) rfl) rfl hS ?_
      refine q_val (fun w hS => e_ix_arr rfl rfl Try.underlying135 sz133 (by omega)) rfl hS ?_
      refine q_val (fun w hS => e_load rfl ag133 ((hS.cell 0 rfl rfl _).trans (wv_getA (by simp only [s8, List.length_cons, List.length_nil]; omega)))) rfl hS ?_
      refine q_val (fun w hS => e_nil rfl rfl) rfl hS ?_
      refine q_eff (e_load rfl ag133 ((S.cell 2 rfl rfl _).trans (wv_getA (by rw [hl, length_addTo]; simp only [s8, List.length_cons, List.length_nil]; omega)))) rfl hS ?_
      refine q_val (fun w hS => e_add32 rfl rfl) rfl hS ?_
      refine q_val (fun w hS => e_ix_arr rfl rfl Try.underlying135 sz133 (by omega)) rfl hS ?_
      refine q_does (d_store1 (v := .int _ _) S 2 rfl rfl rfl sz133 rfl rfl (by simp only [List.size_toArray, wv_length, hl, length_addTo, s8, List.length_cons, List.length_nil]; omega)) rfl ?_
      intro _ w S; refine ⟨S.head, ?_⟩
      refine q_nil (x_in (x_then (s_plain ?_)))
      refine p_val (e_add64 rfl rfl (by omega)) rfl ?_
      refine p_val (e_move (v := .int _ _) rfl) rfl ?_
      refine p_nil ?_
      refine x_round (k + 1) _ rfl ⟨_, l.set k (add32 (l.getD k 0) ((s8 v).getD k 0)), upds_eq ⟨rfl, rfl, rfl, trivial⟩, by omega, by rw [hl]; rfl, by simp only [wv_set, Int.toNat_natCast, Nat.mul_one] at S; exact S⟩ (by omega)
    · refine s_exit (x_then_exit (x_then_exit (x_in_same (post_end ?_))))
      exact post0 Try.results100 (by obtain rfl : k = 8 := (by omega); obtain rfl : i = 64 := (by omega); rw [hl, addTo_8, hv, hW] at S; exact S.tail.tail)
end Go.Proofs.Ytdhfiamgmokfbaa

/- SHA-256's padding. It proves no statement by itself. -/
set_option linter.unusedSimpArgs false
set_option linter.unusedVariables false
set_option maxRecDepth 100000
set_option maxHeartbeats 1000000
namespace Go.Proofs.Ytdhfiamgmokfbaa
open Go Go.RowKit E
theorem padded_calls (w0 : World) (A : Option Addr) (c0 : Nat) (l : List Nat) (R : Rd w0 1 A l.length (bv l)) (hl : l.length ≤ 1099511627776) :
    Ret Try.prog 99 [.slice A l.length c0] w0 fun v w' => ∃ k c, v = .slice (at_ k) (pad l).length c ∧ St w0 w' [] [k] [Rw 5 1 (pad l).length c (bv (pad l))] := by
  have hpz : padZ l.length ≤ 63 := by unfold padZ; omega
  refine enter Try.func99 rfl Try.ntmps99 (Nat.le_of_ble_eq_true rfl) ?_
  have S := St.init w0
  refine s_seq (s_plain ?_)
  refine p_val (e_assign (v := .slice _ _ _) rfl) rfl ?_
  refine p_nil (x_then (s_seq (s_plain ?_)))
  refine p_val (e_move (v := .slice _ _ _) rfl) rfl ?_
  refine p_val (e_len rfl Try.underlying33) rfl ?_
  refine p_val (e_convU64 rfl Try.underlying3 (by simp) Try.underlying150) rfl ?_
  refine p_val (e_mulU64 rfl rfl) rfl ?_
  refine p_val (e_assign (v := .int _ _) rfl) rfl ?_
  refine p_nil (x_then (s_seq (s_plain ?_)))
  refine p_val (e_move (v := .slice _ _ _) rfl) rfl ?_
  have S := S.addNil 5 1
  refine p_does (d_append S 0 rfl rfl Try.underlying33 el5 rfl rfl (S.rdOld R rfl) (bv_one _) (by omega) (by unfold maxLen; omega)) rfl ?_
  rintro _ w ⟨k11, c11, rfl, S⟩
  refine p_does (d_litB S Try.underlying33 sz5 zv5 rfl (l := [_]) rfl rfl (by decide)) rfl ?_
  rintro _ w ⟨b2, rfl, S⟩
  refine p_does (d_append S 1 rfl rfl Try.underlying33 el5 rfl rfl (S.rdRw 0 rfl rfl) (bv_one _) (by omega) (by unfold maxLen; omega)) rfl ?_
  rintro _ w ⟨k13, c13, rfl, S⟩
  refine p_val (e_assign (v := .slice _ _ _) rfl) rfl ?_
  refine p_nil (x_then (s_seq (s_block ?_)))
  refine s_loop (α := Nat) (fun g f' w' => ∃ u k c m, f' = upds u [(3, .int .u64 ((l.length % 18446744073709551616 * 8 % 18446744073709551616 : Nat) : Int)), (4, .slice (at_ k) m c)] ∧ g ≤ padZ l.length ∧ m = l.length + 1 + g ∧ St w0 w' [] [k] [Rw 5 1 m c (bv (padTo l g))]) (fun g => padZ l.length - g) (0) (⟨_, _, _, _, upds_eq ⟨rfl, rfl, trivial⟩, Nat.zero_le _, by omega, S.tail.as1 (by simp [padTo, bv])⟩) ?_
  rintro j f w ⟨u, k, c, m, rfl, hj, hm, S⟩
  refine s_seq (s_seq (s_plain ?_))
  refine p_val (e_move (v := .slice _ _ _) rfl) rfl ?_
  refine p_val (e_len rfl Try.underlying33) rfl ?_
  refine p_val (e_rem64 rfl rfl (by omega)) rfl ?_
  refine p_val (e_neq rfl rfl) rfl ?_
  refine p_nil (x_then ?_)
  refine s_cond rfl (fun hc => ?_) (fun hc => ?_)
  · refine s_skip (x_then (s_block (s_plain ?_)))
    refine p_val (e_move (v := .slice _ _ _) rfl) rfl ?_
    refine p_does (d_litB S Try.underlying33 sz5 zv5 rfl (l := [_]) rfl rfl (by decide)) rfl ?_
    rintro _ w ⟨b4, rfl, S⟩
    refine p_does (d_append S 1 rfl rfl Try.underlying33 el5 rfl rfl (S.rdRw 0 rfl rfl) (bv_one _) (by omega) (by unfold maxLen; omega)) rfl ?_
    rintro _ w ⟨k20, c20, rfl, S⟩
    refine p_val (e_assign (v := .slice _ _ _) rfl) rfl ?_
    refine p_nil (x_in ?_)
    refine x_round (j + 1) _ rfl ⟨_, _, _, _, upds_eq ⟨rfl, rfl, trivial⟩, by unfold padZ at hj ⊢; omega, by omega, S.tail.as1 (by rw [← bv_append, padTo_succ])⟩ (by have hz : j + 1 ≤ padZ l.length := (by unfold padZ at hj ⊢; omega); omega)
  · refine s_exit (x_then_exit (x_then_exit (x_in_same (x_then (s_seq (s_seq (s_plain ?_)))))))
    refine p_val (e_assign (v := .int _ _) rfl) rfl ?_
    refine p_nil (x_then (s_block ?_))
    refine s_loop (α := Nat) (fun g f' w' => ∃ u k c m, f' = upds u [(3, .int .u64 ((l.length % 18446744073709551616 * 8 % 18446744073709551616 : Nat) : Int)), (4, .slice (at_ k) m c), (5, .int .i64 (56 - 8 * (g : Int)))] ∧ g ≤ 8 ∧ m = l.length + 1 + padZ l.length + g ∧ St w0 w' [] [k] [Rw 5 1 m c (bv (padTo l (padZ l.length) ++ len8 (l.length % 18446744073709551616 * 8 % 18446744073709551616) g))]) (fun g => 8 - g) (0) (⟨_, _, _, _, upds_eq ⟨rfl, rfl, rfl, trivial⟩, by omega, by unfold padZ at hj ⊢; omega, S.as1 (by rw [show j = padZ l.length by unfold padZ at hj ⊢; omega]; simp [len8])⟩) ?_
    rintro q f w ⟨u, k, c, m, rfl, hq, hm, S⟩
    refine s_seq (s_seq (s_plain ?_))
    refine p_val (e_move (v := .int _ _) rfl) rfl ?_
    refine p_val (e_geq rfl rfl) rfl ?_
    refine p_nil (x_then ?_)
    refine s_cond rfl (fun hc => ?_) (fun hc => ?_)
    · refine s_skip (x_then (s_seq (s_block (s_plain ?_))))
      refine p_val (e_move (v := .slice _ _ _) rfl) rfl ?_
      refine p_val (e_move (v := .int _ _) rfl) rfl ?_
      refine p_val (e_move (v := .int _ _) rfl) rfl ?_
      refine p_val (e_shr64 (56 - 8 * q) rfl (show Value.int .i64 (56 - 8 * (q : Int)) = .int .i64 ((56 - 8 * q : Nat) : Int) from congrArg _ (by omega)) (by show 56 - 8 * q ≤ 64; omega)) rfl ?_
      refine p_val (e_conv8 rfl Try.underlying150 (by simp) Try.underlying5) rfl ?_
      refine p_does (d_litB S Try.underlying33 sz5 zv5 rfl (l := [_]) rfl rfl (by decide)) rfl ?_
      rintro _ w ⟨b5, rfl, S⟩
      refine p_does (d_append S 1 rfl rfl Try.underlying33 el5 rfl rfl (S.rdRw 0 rfl rfl) (bv_one _) (by omega) (by unfold maxLen; omega)) rfl ?_
      rintro _ w ⟨k31, c31, rfl, S⟩
      refine p_val (e_assign (v := .slice _ _ _) rfl) rfl ?_
      refine p_nil (x_in (x_then (s_plain ?_)))
      refine p_val (e_move (v := .int _ _) rfl) rfl ?_
      refine p_val (e_sub64 rfl rfl (by omega)) rfl ?_
      refine p_val (e_assign (v := .int _ _) rfl) rfl ?_
      refine p_nil ?_
      refine x_round (q + 1) _ rfl ⟨_, _, _, _, upds_eq ⟨rfl, rfl, congrArg (Value.int .i64) (by omega), trivial⟩, by omega, by omega, S.tail.as1 (by rw [← bv_append, List.append_assoc]; rfl)⟩ (by omega)
    · refine s_exit (x_then_exit (x_then_exit (x_in_same (x_then (s_seq (s_plain ?_))))))
      refine p_val (e_move (v := .slice _ _ _) rfl) rfl ?_
      refine p_val (e_assign (v := .slice _ _ _) rfl) rfl ?_
      refine p_nil (x_then (s_ret ?_))
      exact post1 Try.results99 rfl (by obtain rfl : q = 8 := (by omega); obtain rfl : m = (pad l).length := (by rw [length_pad]; omega); exact ⟨_, _, rfl, S⟩)
end Go.Proofs.Ytdhfiamgmokfbaa

/- SHA-256's sums. It proves no statement by itself. -/
set_option linter.unusedSimpArgs false
set_option linter.unusedVariables false
set_option maxRecDepth 100000
set_option maxHeartbeats 1000000
namespace Go.Proofs.Ytdhfiamgmokfbaa
open Go Go.RowKit E
theorem wv_getL {l : List Nat} {i : Nat} (h : i < l.length) : (wv l)[i]? = some (.int .u32 (l.getD i 0 : Int)) := wv_get h
theorem outB_step {a : Array Value} (h : List Nat) (g : Nat) (e : a = (bv (outB h g)).toArray) (x0 x1 x2 x3 : Nat) (i0 i1 i2 i3 : Nat) (h0 : i0 = 4 * g) (h1 : i1 = 4 * g + 1) (h2 : i2 = 4 * g + 2) (h3 : i3 = 4 * g + 3)
    (e0 : x0 = shr32 (h.getD g 0) 24 % 256) (e1 : x1 = shr32 (h.getD g 0) 16 % 256) (e2 : x2 = shr32 (h.getD g 0) 8 % 256) (e3 : x3 = h.getD g 0 % 256) :
    (((a.setIfInBounds i0 (.int .u8 (x0 : Int))).setIfInBounds i1 (.int .u8 (x1 : Int))).setIfInBounds i2 (.int .u8 (x2 : Int))).setIfInBounds i3 (.int .u8 (x3 : Int)) = (bv (outB h (g + 1))).toArray := by
  subst e h0 h1 h2 h3 e0 e1 e2 e3
  simp only [bv_set]
  rfl
theorem of_calls (w0 : World) (A : Option Addr) (c0 : Nat) (l : List Nat) (R : Rd w0 1 A l.length (bv l)) (hl : l.length ≤ 1099511627776) :
    Ret Try.prog 80 [.slice A l.length c0] w0 fun v w' => v = .agg (bv (sumOf l)).toArray ∧ Below w0.heap.size w0 w' := by
  have hp64 : (pad l).length % 64 = 0 := by rw [length_pad]; unfold padZ; omega
  refine enter Try.func80 rfl Try.ntmps80 (Nat.le_of_ble_eq_true rfl) ?_
  have S := St.init w0
  refine s_seq (s_plain ?_)
  refine p_does (d_allocA S zv29) rfl ?_
  rintro _ w ⟨b1, rfl, S⟩
  refine p_nil (x_then (s_seq (s_plain ?_)))
  refine p_does (d_call Try.func97 nm97 rfl rfl (first_calls _)) rfl ?_
  rintro _ w ⟨rfl, hB⟩
  have S := S.below hB
  refine p_does (d_call Try.func98 nm98 rfl rfl (rounds_calls _)) rfl ?_
  rintro _ w ⟨rfl, hB⟩
  have S := S.below hB
  refine p_does (d_allocA S zv135) rfl ?_
  rintro _ w ⟨b2, rfl, S⟩
  refine p_does (d_allocA S zv137) rfl ?_
  rintro _ w ⟨b3, rfl, S⟩
  refine p_does (d_storeW S 1 rfl rfl (wv_one _) sz135 (by rfl) rfl rfl (by rfl)) rfl ?_
  intro _ w S
  refine p_does (d_storeW S 0 rfl rfl (wv_one _) sz137 (by rfl) rfl rfl (by rfl)) rfl ?_
  intro _ w S
  refine p_nil (x_then (s_seq (s_seq (s_plain ?_))))
  refine p_val (e_move (v := .slice _ _ _) rfl) rfl ?_
  refine p_does (d_call Try.func99 nm99 rfl rfl (padded_calls _ A c0 l (S.rdOld R rfl) hl)) rfl ?_
  rintro _ w ⟨pk, pc, rfl, T⟩
  have S := S.merge T rfl
  refine p_val (e_assign (v := .slice _ _ _) rfl) rfl ?_
  refine p_nil (x_then (s_block ?_))
  refine s_loop (α := Nat) (fun g f' w' => ∃ u A' c m, f' = upds u [(2, .pointer (some ⟨b1, 0, none⟩)), (3, .pointer (some ⟨b2, 0, none⟩)), (4, .pointer (some ⟨b3, 0, none⟩)), (5, .slice A' m c)] ∧ 64 * g + m = (pad l).length ∧ m ≤ c ∧ (∀ ad, A' = some ad → ad.block ≠ b2) ∧ Rd w' 1 A' m (bv ((pad l).drop (64 * g))) ∧ St w0 w' [] [some b3, some b2, some b1] [Ex (wv K).toArray 137, Ex (wv (s8 (hashes (pad l) g))).toArray 135, Ex zl29.toArray 29]) (fun g => (pad l).length - 64 * g) (0) (⟨_, _, _, _, upds_eq ⟨rfl, rfl, rfl, rfl, trivial⟩, by omega, S.capRw 0 rfl rfl, S.at_ne 0 2 rfl rfl (by decide), S.rdRw 0 rfl rfl, S.tail⟩) ?_
  rintro g0 f w ⟨u, A', c, m, rfl, hm, hc', hA, hR, S⟩
  refine s_seq (s_seq (s_plain ?_))
  refine p_val (e_move (v := .slice _ _ _) rfl) rfl ?_
  refine p_val (e_len rfl Try.underlying33) rfl ?_
  refine p_val (e_gtr rfl rfl) rfl ?_
  refine p_nil (x_then ?_)
  refine s_cond rfl (fun hc => ?_) (fun hc => ?_)
  · refine s_skip (x_then (s_seq (s_block (s_plain ?_))))
    refine p_val (e_move (v := .slice _ _ _) rfl) rfl ?_
    obtain ⟨ad, rfl⟩ := hR.some_ (by rw [bv_length, List.length_drop]; omega)
    refine p_val (e_sl_h (64) rfl rfl (by omega) (by omega) Try.underlying33 sz5) rfl ?_
    refine p_does (d_call Try.func100 nm100 rfl rfl (block_calls _ b2 b3 ad c (hashes (pad l) g0) (((pad l).drop (64 * g0)).take 64) (0, 0) (S.exact_ 1 rfl rfl) (S.exact_ 0 rfl rfl) (S.ne 0 1 rfl rfl (by decide)) (Rd.take_bv hR (by omega)))) rfl ?_
    rintro _ w T
    have hR := hR.keep T (fun ad h => by cases h; simpa using hA _ rfl)
    have S := (S.sub1 1 T rfl rfl).pick [1, 0, 3] (by decide) (by simp) (by simp)
    refine p_nil (x_in (x_then (s_plain ?_)))
    refine p_val (e_move (v := .slice _ _ _) rfl) rfl ?_
    refine p_val (e_sl_l (64) rfl rfl (by omega) (by omega) Try.underlying33 sz5) rfl ?_
    refine p_val (e_assign (v := .slice _ _ _) rfl) rfl ?_
    refine p_nil ?_
    refine x_round (g0 + 1) _ rfl ⟨_, _, _, _, upds_eq ⟨rfl, rfl, rfl, rfl, trivial⟩, by omega, by omega, sl_block hA, by have := Rd.drop_bv (m := 64) hR (by omega) hc'; rw [List.drop_drop] at this; exact this, S⟩ (by omega)
  · refine s_exit (x_then_exit (x_then_exit (x_in_same (x_then (s_seq (s_plain ?_))))))
    refine p_does (d_allocA S zv29) rfl ?_
    rintro _ w ⟨b7, rfl, S⟩
    refine p_nil (x_then (s_seq (s_seq (s_plain ?_))))
    refine p_val (e_loadN (cs := wv (s8 (hashes (pad l) g0))) rfl ag135 sz135 (by rfl) (fun j u hu => (S.cell 2 rfl rfl _).trans (by simpa using hu))) rfl ?_
    refine p_val (e_move (v := .int _ _) rfl) rfl ?_
    refine p_nil (x_then (s_block ?_))
    refine s_loop (α := Nat) (fun g f' w' => ∃ u, f' = upds u [(2, .pointer (some ⟨b1, 0, none⟩)), (6, .pointer (some ⟨b7, 0, none⟩)), (21, .agg (wv (s8 (hashes (pad l) g0))).toArray), (22, .int .i64 (g : Int))] ∧ g ≤ 8 ∧ St w0 w' [] [some b7, some b1] [Ex (bv (outB (s8 (hashes (pad l) g0)) g)).toArray 29, Ex zl29.toArray 29]) (fun g => 8 - g) (0) (⟨_, upds_eq ⟨rfl, rfl, rfl, rfl, trivial⟩, by omega, S.pick [0, 3] (by decide) (by simp) (by simp)⟩) ?_
    rintro q f w ⟨u, rfl, hq, S⟩
    refine s_seq (s_plain ?_)
    refine p_val (e_lss rfl rfl) rfl ?_
    refine p_nil (x_then (s_seq ?_))
    refine s_cond rfl (fun hc => ?_) (fun hc => ?_)
    · refine s_skip (x_then (s_seq (s_block (s_seq (s_plain ?_)))))
      refine p_val (e_move (v := .int _ _) rfl) rfl ?_
      refine p_val (e_index rfl rfl Try.underlying135 ag133 sz133 (by omega) (wv_get (by simp only [s8, List.length_cons, List.length_nil]; omega))) rfl ?_
      refine p_val (e_assign (v := .int _ _) rfl) rfl ?_
      refine p_val (e_assign (v := .int _ _) rfl) rfl ?_
      refine p_nil (x_then (s_plain ?_))
      refine p_val (e_move (v := .int _ _) rfl) rfl ?_
      refine p_val (e_mul64 rfl rfl (by omega)) rfl ?_
      refine p_val (e_move (v := .int _ _) rfl) rfl ?_
      refine p_val (e_mul64 rfl rfl (by omega)) rfl ?_
      refine p_val (e_add64 rfl rfl (by omega)) rfl ?_
      refine p_val (e_move (v := .int _ _) rfl) rfl ?_
      refine p_val (e_mul64 rfl rfl (by omega)) rfl ?_
      refine p_val (e_add64 rfl rfl (by omega)) rfl ?_
      refine p_val (e_move (v := .int _ _) rfl) rfl ?_
      refine p_val (e_mul64 rfl rfl (by omega)) rfl ?_
      refine p_val (e_add64 rfl rfl (by omega)) rfl ?_
      refine p_val (e_move (v := .int _ _) rfl) rfl ?_
      refine p_val (e_shr32 24 rfl rfl (by decide)) rfl ?_
      refine p_val (e_conv8 rfl Try.underlying133 (by simp) Try.underlying5) rfl ?_
      refine p_val (e_move (v := .int _ _) rfl) rfl ?_
      refine p_val (e_shr32 16 rfl rfl (by decide)) rfl ?_
      refine p_val (e_conv8 rfl Try.underlying133 (by simp) Try.underlying5) rfl ?_
      refine p_val (e_move (v := .int _ _) rfl) rfl ?_
      refine p_val (e_shr32 8 rfl rfl (by decide)) rfl ?_
      refine p_val (e_conv8 rfl Try.underlying133 (by simp) Try.underlying5) rfl ?_
      refine p_val (e_move (v := .int _ _) rfl) rfl ?_
      refine p_val (e_conv8 rfl Try.underlying133 (by simp) Try.underlying5) rfl ?_
      refine p_val (e_ix_arr rfl rfl Try.underlying29 sz5 (by omega)) rfl ?_
      refine p_does (d_store1 (v := .int _ _) S 0 rfl rfl rfl sz5 rfl rfl (by simp [length_outB]; omega)) rfl ?_
      intro _ w S
      refine p_val (e_ix_arr rfl rfl Try.underlying29 sz5 (by omega)) rfl ?_
      refine p_does (d_store1 (v := .int _ _) S 0 rfl rfl rfl sz5 rfl rfl (by simp [length_outB]; omega)) rfl ?_
      intro _ w S
      refine p_val (e_ix_arr rfl rfl Try.underlying29 sz5 (by omega)) rfl ?_
      refine p_does (d_store1 (v := .int _ _) S 0 rfl rfl rfl sz5 rfl rfl (by simp [length_outB]; omega)) rfl ?_
      intro _ w S
      refine p_val (e_ix_arr rfl rfl Try.underlying29 sz5 (by omega)) rfl ?_
      refine p_does (d_store1 (v := .int _ _) S 0 rfl rfl rfl sz5 rfl rfl (by simp [length_outB]; omega)) rfl ?_
      intro _ w S
      refine p_nil (x_in (x_then (s_plain ?_)))
      refine p_val (e_add64 rfl rfl (by omega)) rfl ?_
      refine p_val (e_move (v := .int _ _) rfl) rfl ?_
      refine p_nil ?_
      refine x_round (q + 1) _ rfl ⟨_, upds_eq ⟨rfl, rfl, rfl, rfl, trivial⟩, by omega, S.asEx (outB_step (s8 (hashes (pad l) g0)) q rfl _ _ _ _ _ _ _ _ (by omega) (by omega) (by omega) (by omega) rfl rfl rfl rfl)⟩ (by omega)
    · refine s_exit (x_then_exit (x_then_exit (x_in_same (x_then (s_seq (s_plain ?_))))))
      refine p_val (e_loadN (cs := bv (outB (s8 (hashes (pad l) g0)) q)) rfl ag29 sz29 (by simp [length_outB]) (fun j u hu => (S.cell 0 rfl rfl _).trans (by simpa using hu))) rfl ?_
      refine p_does (d_storeW S 1 rfl rfl (bv_one _) sz29 (by simp [length_outB]) rfl rfl (by rfl)) rfl ?_
      intro _ w S
      refine p_nil (x_then (s_ret ?_))
      exact postC Try.results80 S 1 rfl rfl rfl ag29 sz29 (by simp [length_outB]) ⟨by obtain rfl : q = 8 := (by omega); rw [sumOf, show (pad l).length / 64 = g0 by omega], S.to_below⟩
end Go.Proofs.Ytdhfiamgmokfbaa

/- Sums of parts. It proves no statement by itself. -/
set_option linter.unusedSimpArgs false
set_option linter.unusedVariables false
set_option maxRecDepth 100000
set_option maxHeartbeats 1000000
namespace Go.Proofs.Ytdhfiamgmokfbaa
open Go Go.RowKit E
theorem join_calls (w0 : World) (tag : Nat) (A : Option Addr) (c0 : Nat) (ls : List (List Nat)) (R : Parts w0 A ls) (hl : (joinB tag ls ls.length).length ≤ 1099511627776) (hn : ls.length ≤ 1000000) :
    Ret Try.prog 19 [.int .u8 (tag : Int), .slice A ls.length c0] w0 fun v w' => v = .agg (bv (join tag ls)).toArray ∧ Below w0.heap.size w0 w' := by
  obtain ⟨vs, RA, hvs⟩ := R
  refine enter Try.func19 rfl Try.ntmps19 (Nat.le_of_ble_eq_true rfl) ?_
  have S := St.init w0
  refine s_seq (s_plain ?_)
  refine p_does (d_allocA S zv29) rfl ?_
  rintro _ w ⟨b1, rfl, S⟩
  refine p_nil (x_then (s_seq (s_plain ?_)))
  refine p_val (e_move (v := .int _ _) rfl) rfl ?_
  refine p_does (d_litB S Try.underlying33 sz5 zv5 rfl (l := [_]) rfl rfl (by decide)) rfl ?_
  rintro _ w ⟨b2, rfl, S⟩
  refine p_val (e_assign (v := .slice _ _ _) rfl) rfl ?_
  refine p_nil (x_then (s_seq (s_seq (s_plain ?_))))
  refine p_val (e_move (v := .slice _ _ _) rfl) rfl ?_
  refine p_val (e_len rfl Try.underlying90) rfl ?_
  refine p_val (e_move (v := .int _ _) rfl) rfl ?_
  refine p_nil (x_then (s_block ?_))
  refine s_loop (α := Nat) (fun g f' w' => ∃ u k c m, f' = upds u [(4, .pointer (some ⟨b1, 0, none⟩)), (5, .slice (at_ k) m c), (11, .slice A ls.length c0), (12, .int .i64 (ls.length : Int)), (13, .int .i64 (g : Int))] ∧ g ≤ ls.length ∧ m = (joinB tag ls g).length ∧ St w0 w' [] [k, some b1] [Rw 5 1 m c (bv (joinB tag ls g)), Ex zl29.toArray 29]) (fun g => ls.length - g) (0) (⟨_, _, _, _, upds_eq ⟨rfl, rfl, rfl, rfl, rfl, trivial⟩, by omega, rfl, S⟩) ?_
  rintro g f w ⟨u, k, c, m, rfl, hg, hm, S⟩
  refine s_seq (s_plain ?_)
  refine p_val (e_lss rfl rfl) rfl ?_
  refine p_nil (x_then (s_seq ?_))
  refine s_cond rfl (fun hc => ?_) (fun hc => ?_)
  · refine s_skip (x_then (s_seq (s_block (s_seq (s_plain ?_)))))
    obtain ⟨ad, rfl⟩ := RA.some_ (by rw [RA.1]; omega)
    obtain ⟨v, hv⟩ : ∃ v, vs[g]? = some v := ⟨_, List.getElem?_eq_getElem (by rw [RA.1]; omega)⟩
    obtain ⟨Ai, ci, rfl, Ri⟩ := hvs g v hv
    have hb := joinB_mono tag ls (m := g + 1) (n := ls.length) (by omega)
    simp only [joinB, List.length_append, len4, List.length_cons, List.length_nil] at hb
    refine p_val (e_ix_sl rfl rfl Try.underlying90 sz33 (by omega)) rfl ?_
    refine p_val (e_load rfl ag33 ((S.rdOld RA rfl).cell1 hv)) rfl ?_
    refine p_val (e_assign (v := .slice _ _ _) rfl) rfl ?_
    refine p_nil (x_then (s_seq (s_plain ?_)))
    refine p_val (e_move (v := .slice _ _ _) rfl) rfl ?_
    refine p_val (e_len rfl Try.underlying33) rfl ?_
    refine p_val (e_assign (v := .int _ _) rfl) rfl ?_
    refine p_nil (x_then (s_seq (s_plain ?_)))
    refine p_val (e_move (v := .slice _ _ _) rfl) rfl ?_
    refine p_val (e_move (v := .int _ _) rfl) rfl ?_
    refine p_val (e_shr64 24 rfl rfl (by decide)) rfl ?_
    refine p_val (e_conv8 rfl Try.underlying3 (by simp) Try.underlying5) rfl ?_
    refine p_val (e_move (v := .int _ _) rfl) rfl ?_
    refine p_val (e_shr64 16 rfl rfl (by decide)) rfl ?_
    refine p_val (e_conv8 rfl Try.underlying3 (by simp) Try.underlying5) rfl ?_
    refine p_val (e_move (v := .int _ _) rfl) rfl ?_
    refine p_val (e_shr64 8 rfl rfl (by decide)) rfl ?_
    refine p_val (e_conv8 rfl Try.underlying3 (by simp) Try.underlying5) rfl ?_
    refine p_val (e_move (v := .int _ _) rfl) rfl ?_
    refine p_val (e_conv8 rfl Try.underlying3 (by simp) Try.underlying5) rfl ?_
    refine p_does (d_litB S Try.underlying33 sz5 zv5 rfl (l := [_, _, _, _]) rfl rfl (by decide)) rfl ?_
    rintro _ w ⟨b5, rfl, S⟩
    refine p_does (d_append S 1 rfl rfl Try.underlying33 el5 rfl rfl (S.rdRw 0 rfl rfl) (bv_one _) (by omega) (by unfold maxLen; omega)) rfl ?_
    rintro _ w ⟨k32, c32, rfl, S⟩
    refine p_val (e_assign (v := .slice _ _ _) rfl) rfl ?_
    refine p_nil (x_then (s_plain ?_))
    refine p_val (e_move (v := .slice _ _ _) rfl) rfl ?_
    refine p_val (e_move (v := .slice _ _ _) rfl) rfl ?_
    refine p_does (d_append S 1 rfl rfl Try.underlying33 el5 rfl rfl (S.rdOld Ri rfl) (bv_one _) (by omega) (by unfold maxLen; omega)) rfl ?_
    rintro _ w ⟨k35, c35, rfl, S⟩
    refine p_val (e_assign (v := .slice _ _ _) rfl) rfl ?_
    refine p_nil (x_in (x_then (s_plain ?_)))
    refine p_val (e_add64 rfl rfl (by omega)) rfl ?_
    refine p_val (e_move (v := .int _ _) rfl) rfl ?_
    refine p_nil ?_
    refine x_round (g + 1) _ rfl ⟨_, _, _, _, upds_eq ⟨rfl, rfl, rfl, rfl, rfl, trivial⟩, by omega, by simp [joinB, len4, hm]; omega, S.tail.asRw (by simp only [← bv_append]; rfl)⟩ (by omega)
  · subst hm
    obtain rfl : g = ls.length := (by omega)
    refine s_exit (x_then_exit (x_then_exit (x_in_same (x_then (s_seq (s_plain ?_))))))
    refine p_val (e_move (v := .slice _ _ _) rfl) rfl ?_
    refine p_does (d_call Try.func80 nm80 rfl rfl (of_calls _ (at_ k) c (joinB tag ls ls.length) (S.rdRw 0 rfl rfl) hl)) rfl ?_
    rintro _ w ⟨rfl, hB⟩
    have S := S.below hB
    refine p_does (d_storeW S 1 rfl rfl (bv_one _) sz29 (by simp [length_sumOf]) rfl rfl (by rfl)) rfl ?_
    intro _ w S
    refine p_nil (x_then (s_ret ?_))
    exact postC Try.results19 S 1 rfl rfl rfl ag29 sz29 (by simp [length_sumOf]) ⟨by unfold join; rfl, S.to_below⟩
theorem pair_calls (w0 : World) (tag : Nat) (a b : List Nat) (ha : a.length = 32) (hb : b.length = 32) :
    Ret Try.prog 85 [.int .u8 (tag : Int), .agg (bv a).toArray, .agg (bv b).toArray] w0 fun v w' => v = .agg (bv (join tag [a, b])).toArray ∧ Below w0.heap.size w0 w' := by
  refine enter Try.func85 rfl Try.ntmps85 (Nat.le_of_ble_eq_true rfl) ?_
  have S := St.init w0
  refine s_seq (s_plain ?_)
  refine p_does (d_boxA S rfl) rfl ?_
  rintro _ w ⟨b1, rfl, S⟩
  refine p_does (d_boxA S rfl) rfl ?_
  rintro _ w ⟨b2, rfl, S⟩
  refine p_does (d_allocA S zv29) rfl ?_
  rintro _ w ⟨b3, rfl, S⟩
  refine p_nil (x_then (s_seq ?_))
  refine s_draw [(true, 0), (true, 1), (true, 2), (false, 3), (false, 4), (false, 5)] (fun w' => True) mixed (by kernel_rfl) (by repeat (first | exact Calm.post _ _ _ | refine Calm.then ?_ _ | refine Calm.inB ?_ _)) ?_
  have S := S.drew
  have hS := trivial
  refine q_val (fun w hS => e_move (v := .int _ _) rfl) rfl hS ?_
  refine q_val (fun w hS => e_sl_arr rfl Try.underlying29 sz5) rfl hS ?_
  refine q_val (fun w hS => e_sl_arr rfl Try.underlying29 sz5) rfl hS ?_
  refine q_does (d_lit1 S Try.underlying90 sz33 zv33 rfl (vs := [.slice _ _ _, .slice _ _ _]) rfl rfl rfl (by decide)) rfl ?_
  rintro _ w ⟨b4, rfl, S⟩; refine ⟨trivial, ?_⟩
  refine q_does (d_call Try.func19 nm19 rfl rfl (join_calls _ tag _ _ [a, b] (Parts.two (S.rdRw 0 rfl rfl) (S.rdBytes 3 rfl rfl ha) (S.rdBytes 2 rfl rfl hb)) (by simp [joinB, len4, ha, hb]) (by simp))) rfl ?_
  rintro _ w ⟨rfl, hB⟩
  have S := S.below hB; refine ⟨trivial, ?_⟩
  refine q_does (d_storeW S 1 rfl rfl (bv_one _) sz29 (by simp [length_join]) rfl rfl (by rfl)) rfl ?_
  intro _ w S; refine ⟨trivial, ?_⟩
  refine q_nil (x_then (s_ret ?_))
  exact postC Try.results85 S 1 rfl rfl rfl ag29 sz29 (by simp [length_join]) ⟨rfl, S.to_below⟩
theorem hash_calls (w0 : World) (A : Option Addr) (c0 : Nat) (l : List Nat) (R : Rd w0 1 A l.length (bv l)) (hl : l.length ≤ 1099511620000) :
    Ret Try.prog 101 [.slice A l.length c0] w0 fun v w' => v = .agg (bv (join 31 [l])).toArray ∧ Below w0.heap.size w0 w' := by
  refine enter Try.func101 rfl Try.ntmps101 (Nat.le_of_ble_eq_true rfl) ?_
  have S := St.init w0
  refine s_seq (s_plain ?_)
  refine p_does (d_allocA S zv29) rfl ?_
  rintro _ w ⟨b1, rfl, S⟩
  refine p_nil (x_then (s_seq (s_plain ?_)))
  refine p_val (e_move (v := .slice _ _ _) rfl) rfl ?_
  refine p_does (d_lit1 S Try.underlying90 sz33 zv33 rfl (vs := [.slice _ _ _]) rfl rfl rfl (by decide)) rfl ?_
  rintro _ w ⟨b2, rfl, S⟩
  refine p_does (d_call Try.func19 nm19 rfl rfl (join_calls _ 31 _ _ [l] (Parts.one (S.rdRw 0 rfl rfl) (S.rdOld R rfl)) (by simp [joinB, len4]; omega) (by simp))) rfl ?_
  rintro _ w ⟨rfl, hB⟩
  have S := S.below hB
  refine p_does (d_storeW S 1 rfl rfl (bv_one _) sz29 (by simp [length_join]) rfl rfl (by rfl)) rfl ?_
  intro _ w S
  refine p_nil (x_then (s_ret ?_))
  exact postC Try.results101 S 1 rfl rfl rfl ag29 sz29 (by simp [length_join]) ⟨rfl, S.to_below⟩
end Go.Proofs.Ytdhfiamgmokfbaa

/- Transactions as they lie in memory, and the bytes that they are summed by. It proves no statement by itself. -/
set_option linter.unusedSimpArgs false
set_option linter.unusedVariables false
namespace Go.Proofs.Ytdhfiamgmokfbaa
open Go Go.RowKit E
/-- a slice that is read, apart from some blocks -/
def Slr {α : Type} (w : World) (bs : List Nat) (s : Nat) (c : α → List Value) (ok : α → Prop) (x : Sl α) : Prop :=
  x.xs.length = x.n ∧ x.n ≤ x.c ∧ (∀ y ∈ x.xs, ok y) ∧ Rd w s x.A x.n (x.xs.flatMap c) ∧ Off x.A x.n bs
/-- what is read in one world is read in another one -/
def Carry (w : World) (bs : List Nat) (w' : World) (bs' : List Nat) : Prop := ∀ (s : Nat) (A : Option Addr) (n : Nat) (xs : List Value), 0 < s → Rd w s A n xs → Off A n bs → Rd w' s A n xs ∧ Off A n bs'
theorem Slr.carry {α : Type} {w w' : World} {bs bs' : List Nat} {s : Nat} {c : α → List Value} {ok ok' : α → Prop} {x : Sl α} (hs : 0 < s) (h : Slr w bs s c ok x) (C : Carry w bs w' bs') (hok : ∀ y, ok y → ok' y) : Slr w' bs' s c ok' x :=
  ⟨h.1, h.2.1, fun y hy => hok y (h.2.2.1 y hy), C s _ _ _ hs h.2.2.2.1 h.2.2.2.2⟩
theorem E.St.carry {w0 w : World} {ex : List Nat} {ks : List (Option Nat)} {ps : List (Option Obj → Prop)} (S : St w0 w ex ks ps) (σ : List Nat) (hσ : (σ.all fun i => Nat.blt i ks.length) = true) : Carry w0 ex w (exOf (σ.map fun i => ks.getD i none)) :=
  fun s A n xs hs R h => ⟨S.rdOff R h, S.offOld σ R hs h hσ⟩
theorem E.St.carry0 {w0 w : World} {ks : List (Option Nat)} {ps : List (Option Obj → Prop)} (S : St w0 w [] ks ps) : Carry w0 [] w [] :=
  fun s A n xs hs R h => ⟨S.rdOff R h, Off.nil⟩
abbrev byteV (b : Nat) : List Value := [.int .u8 (b : Int)]
abbrev intV (i : Int) : List Value := [.int .i64 i]
structure WayV where
  keys : Sl Int
  h : List Nat
  (af wt : Int)
def wayC (x : WayV) : List (List Value) := [[.slice x.keys.A x.keys.n x.keys.c], bv x.h, [.int .i64 x.af], [.int .i64 x.wt]]
def wayV (x : WayV) : List Value := cat (wayC x)
def WayOk (w : World) (bs : List Nat) (x : WayV) : Prop := Slr w bs 1 intV (fun _ => True) x.keys ∧ x.h.length = 32
theorem wayV_len {x : WayV} (h : x.h.length = 32) : (wayV x).length = 35 := by simp [wayV, wayC, cat, h]
structure OutV where
  am : Int
  ways : Sl WayV
def outC (x : OutV) : List (List Value) := [[.int .i64 x.am], [.slice x.ways.A x.ways.n x.ways.c]]
def outV (x : OutV) : List Value := cat (outC x)
def OutOk (w : World) (bs : List Nat) (x : OutV) : Prop := Slr w bs 35 wayV (WayOk w bs) x.ways
structure InV where
  tx : List Nat
  (at_ way : Int)
  pre : Sl Nat
def inC (x : InV) : List (List Value) := [bv x.tx, [.int .i64 x.at_], [.int .i64 x.way], [.slice x.pre.A x.pre.n x.pre.c]]
def inV (x : InV) : List Value := cat (inC x)
def InOk (w : World) (bs : List Nat) (x : InV) : Prop := x.tx.length = 32 ∧ Slr w bs 1 byteV (fun _ => True) x.pre
theorem inV_len {x : InV} (h : x.tx.length = 32) : (inV x).length = 35 := by simp [inV, inC, cat, h]
structure TxV where
  ins : Sl InV
  outs : Sl OutV
  (k t c am : Int)
  root : List Nat
  data : Sl Nat
  sA : Option Addr
  (sn sc : Nat)
def txC (x : TxV) : List (List Value) := [[.slice x.ins.A x.ins.n x.ins.c], [.slice x.outs.A x.outs.n x.outs.c], [.int .i64 x.k], [.int .i64 x.t], [.int .i64 x.c], [.int .i64 x.am], bv x.root, [.slice x.data.A x.data.n x.data.c], [.slice x.sA x.sn x.sc]]
def txV (x : TxV) : List Value := cat (txC x)
structure TxOk (w : World) (bs : List Nat) (x : TxV) : Prop where
  ins : Slr w bs 35 inV (InOk w bs) x.ins
  outs : Slr w bs 2 outV (OutOk w bs) x.outs
  root : x.root.length = 32
  data : Slr w bs 1 byteV (fun _ => True) x.data
theorem txV_len {x : TxV} (h : x.root.length = 32) : (txV x).length = 40 := by simp [txV, txC, cat, h]
section
variable {w w' : World} {bs bs' : List Nat}
theorem WayOk.carry {x : WayV} (h : WayOk w bs x) (C : Carry w bs w' bs') : WayOk w' bs' x := ⟨h.1.carry (by decide) C fun _ h => h, h.2⟩
theorem OutOk.carry {x : OutV} (h : OutOk w bs x) (C : Carry w bs w' bs') : OutOk w' bs' x := Slr.carry (by decide) h C fun y hy => hy.carry C
theorem InOk.carry {x : InV} (h : InOk w bs x) (C : Carry w bs w' bs') : InOk w' bs' x := ⟨h.1, h.2.carry (by decide) C fun _ h => h⟩
theorem TxOk.carry {x : TxV} (h : TxOk w bs x) (C : Carry w bs w' bs') : TxOk w' bs' x := ⟨h.ins.carry (by decide) C fun y hy => hy.carry C, h.outs.carry (by decide) C fun y hy => hy.carry C, h.root, h.data.carry (by decide) C fun _ h => h⟩
end
def twayB (x : WayV) : List Nat := num x.keys.n ++ nums x.keys.xs ++ x.h ++ nums [x.af, x.wt]
def toutB (x : OutV) : List Nat := nums [x.am, (x.ways.n : Int)] ++ x.ways.xs.flatMap twayB
def tinB (x : InV) : List Nat := x.tx ++ nums [x.at_, x.way]
def tbodyB (x : TxV) : List Nat := num x.ins.n ++ x.ins.xs.flatMap tinB ++ num x.outs.n ++ x.outs.xs.flatMap toutB ++ nums [x.k, x.t, x.c, x.am] ++ x.root ++ num x.data.xs.length ++ x.data.xs
@[irreducible] def txsum (x : TxV) : List Nat := join 41 [tbodyB x]
theorem length_txsum (x : TxV) : (txsum x).length = 32 := by unfold txsum; exact length_join _ _
/-- is a transaction small enough for a statement? -/
structure TxSm (x : TxV) : Prop where
  ins : x.ins.n ≤ 20
  outs : x.outs.n ≤ 20
  sn : x.sn ≤ 20
  data : x.data.n ≤ 6000
  pre : ∀ y ∈ x.ins.xs, y.pre.n ≤ 100
  ways : ∀ y ∈ x.outs.xs, y.ways.n ≤ 20
  keys : ∀ y ∈ x.outs.xs, ∀ z ∈ y.ways.xs, z.keys.n ≤ 20
theorem flat_len {α : Type} {c : α → List Nat} {m : Nat} : ∀ {xs : List α}, (∀ x ∈ xs, (c x).length ≤ m) → (xs.flatMap c).length ≤ xs.length * m
  | [], _ => by simp
  | a :: xs, h => by
    have ih := flat_len (xs := xs) (c := c) (m := m) fun x hx => h x (by simp [hx])
    have ha := h a (by simp)
    rw [List.flatMap_cons, List.length_append, List.length_cons, Nat.add_mul]
    omega
theorem twayB_len {w : World} {bs : List Nat} {x : WayV} (h : WayOk w bs x) (hk : x.keys.n ≤ 20) : (twayB x).length ≤ 262 := by
  have h1 := num_len (x.keys.n : Int)
  have h2 := nums_len x.keys.xs
  have h3 := nums_len [x.af, x.wt]
  have h4 := h.2
  have h5 := h.1.1
  simp only [List.length_cons, List.length_nil] at h3
  unfold twayB
  simp only [List.length_append]; omega
theorem toutB_len {w : World} {bs : List Nat} {x : OutV} (h : OutOk w bs x) (hw : x.ways.n ≤ 20) (hk : ∀ z ∈ x.ways.xs, z.keys.n ≤ 20) : (toutB x).length ≤ 5260 := by
  have h1 := nums_len [x.am, (x.ways.n : Int)]
  have h2 := flat_len (xs := x.ways.xs) (c := twayB) (m := 262) fun y hy => twayB_len (h.2.2.1 y hy) (hk y hy)
  have h3 := h.1
  simp only [List.length_cons, List.length_nil] at h1
  unfold toutB
  simp only [List.length_append]; omega
theorem tinB_len {w : World} {bs : List Nat} {x : InV} (h : InOk w bs x) : (tinB x).length ≤ 52 := by
  have h1 := nums_len [x.at_, x.way]
  have h2 := h.1
  simp only [List.length_cons, List.length_nil] at h1
  unfold tinB
  simp only [List.length_append]; omega
theorem take_flat {α : Type} {c : α → List Nat} {xs : List α} {g : Nat} {y : α} (h : xs[g]? = some y) : (xs.take (g + 1)).flatMap c = (xs.take g).flatMap c ++ c y := by
  obtain ⟨hg, e⟩ := List.getElem?_eq_some_iff.1 h
  rw [List.take_succ_eq_append_getElem hg, List.flatMap_append, e]
  simp
theorem some_at {α : Type} {xs : List α} {g n : Nat} (hl : xs.length = n) (h : g < n) : ∃ y, xs[g]? = some y ∧ y ∈ xs := by
  have hg : g < xs.length := by omega
  exact ⟨xs[g], List.getElem?_eq_getElem hg, List.getElem_mem hg⟩
theorem tbodyB_len {w : World} {bs : List Nat} {x : TxV} (hX : TxOk w bs x) (hs : TxSm x) : (tbodyB x).length ≤ 120000 := by
  have n1 := num_len (x.ins.n : Int)
  have n2 := num_len (x.outs.n : Int)
  have n3 := num_len (x.data.xs.length : Int)
  have n4 := nums_len [x.k, x.t, x.c, x.am]
  have h1 := flat_len (xs := x.ins.xs) (c := tinB) (m := 52) fun y hy => tinB_len (hX.ins.2.2.1 y hy)
  have h2 := flat_len (xs := x.outs.xs) (c := toutB) (m := 5260) fun y hy => toutB_len (hX.outs.2.2.1 y hy) (hs.ways y hy) (hs.keys y hy)
  have e1 := hX.ins.1
  have e2 := hX.outs.1
  have e3 := hX.data.1
  have e4 := hX.root
  have s1 := hs.ins
  have s2 := hs.outs
  have s3 := hs.data
  simp only [List.length_cons, List.length_nil] at n4
  unfold tbodyB
  simp only [List.length_append]; omega
end Go.Proofs.Ytdhfiamgmokfbaa

/- Outs and transactions, written, walked. It proves no statement by itself. -/
set_option linter.unusedSimpArgs false
set_option linter.unusedVariables false
set_option maxRecDepth 100000
set_option maxHeartbeats 1000000
namespace Go.Proofs.Ytdhfiamgmokfbaa
open Go Go.RowKit E
attribute [local irreducible] wpList seqH treeH
theorem lk_put (w0 : World) (hb : Nat) (k : Option Nat) (c : Nat) (l : List Nat) (o : OutV) (S0 : St w0 w0 (exOf [some hb, k]) [some hb, k] [penE k c l, penR c l]) (hO : OutOk w0 (exOf [some hb, k]) o) (hl : l.length ≤ 1000000000) (hw : o.ways.n ≤ 20) (hk : ∀ z ∈ o.ways.xs, z.keys.n ≤ 20) :
    Ret Try.prog 102 [.pointer (some ⟨hb, 0, none⟩), .agg (cat (outC o)).toArray] w0 fun v w' => v = .tuple #[] ∧ ∃ k' c', St w0 w' (exOf [some hb, k]) [some hb, k'] [penE k' c' (l ++ toutB o), penR c' (l ++ toutB o)] := by
  refine enter Try.func102 rfl Try.ntmps102 (Nat.le_of_ble_eq_true rfl) ?_
  have S := S0
  obtain ⟨h1, h2, h3, RW, oRW⟩ := hO
  have n1 := nums_len [o.am, (o.ways.n : Int)]
  simp only [List.length_cons, List.length_nil] at n1
  refine s_seq (s_plain ?_)
  refine p_does (d_boxA S rfl) rfl ?_
  rintro _ w ⟨b3, rfl, S⟩
  refine p_nil (x_then (s_seq (s_plain ?_)))
  refine p_val (e_move (v := .pointer _) rfl) rfl ?_
  refine p_val (e_field rfl Try.underlying147 rfl sz2 (by decide)) rfl ?_
  refine p_val (e_loadF1 (i := 0) (off := 0) rfl ag2 S (j := 0) rfl rfl rfl (by first | with_reducible assumption | (rw [bv_length]; with_reducible assumption) | (rw [List.size_toArray, bv_length]; with_reducible assumption) | (simp [cat, outC, Value.cells]; done) | (simp [cat, outC, Value.cells]; omega) | rfl)) rfl ?_
  refine p_val (e_field rfl Try.underlying147 rfl sz145 (by decide)) rfl ?_
  refine p_val (e_loadF1 (i := 1) (off := 1) rfl ag145 S (j := 0) rfl rfl rfl (by first | with_reducible assumption | (rw [bv_length]; with_reducible assumption) | (rw [List.size_toArray, bv_length]; with_reducible assumption) | (simp [cat, outC, Value.cells]; done) | (simp [cat, outC, Value.cells]; omega) | rfl)) rfl ?_
  refine p_val (e_len rfl Try.underlying145) rfl ?_
  refine p_does (d_litI S Try.underlying128 sz3 zv3 rfl (l := [_, _]) rfl rfl (by decide)) rfl ?_
  rintro _ w ⟨b12, rfl, S⟩
  refine p_does (d_call Try.func64 nm64 rfl rfl (pen_nums _ _ _ _ _ _ _ _ _ (S.hr [2, 3] rfl) (S.rdRw 0 rfl rfl) (S.offRow 0 [2, 3] rfl rfl) (by first | omega | (simp only [List.length_append, List.length_cons, List.length_nil, bv_length, outC, Value.cells]; omega) | (simp [cat, outC, Value.cells]; omega)) (by decide))) rfl ?_
  rintro _ w ⟨rfl, k13, c13, T⟩
  have S := (S.call [2, 3] T rfl).pk [2, 3, 0, 1] rfl
  refine p_nil (x_then (s_seq (s_plain ?_)))
  refine p_val (e_field rfl Try.underlying147 rfl sz145 (by decide)) rfl ?_
  refine p_val (e_loadF1 (i := 1) (off := 1) rfl ag145 S (j := 1) rfl rfl rfl (by first | with_reducible assumption | (rw [bv_length]; with_reducible assumption) | (rw [List.size_toArray, bv_length]; with_reducible assumption) | (simp [cat, outC, Value.cells]; done) | (simp [cat, outC, Value.cells]; omega) | rfl)) rfl ?_
  refine p_val (e_len rfl Try.underlying145) rfl ?_
  refine p_val (e_move (v := .int _ _) rfl) rfl ?_
  refine p_nil (x_then (s_block ?_))
  refine s_loopK (α := Nat) (ks := [some b12, some b3, some hb, k13]) (ps := [Rw _ _ _ _ _, Ex _ _, Ex _ _, Rw _ _ _ _ _]) [(0, .pointer _), (15, .slice _ _ _), (16, .int _ _)] ⟨rfl, rfl, rfl, trivial⟩ S (fun keep ks ps g f' w' => ∃ u Kk Ck q, f' = upds u ((17, .int .i64 (g : Int)) :: keep) ∧ (g ≤ o.ways.n) ∧ (q = l ++ nums [o.am, (o.ways.n : Int)] ++ (o.ways.xs.take g).flatMap twayB) ∧ (q.length ≤ l.length + 20 + 262 * g) ∧ St w0 w' (exOf [some hb, k]) [some b12, some b3, some hb, Kk] [(ps.getD 0 fun _ => True), (ps.getD 1 fun _ => True), penE Kk Ck q, Rw 5 1 ((List.length q)) Ck (bv q)]) (fun g => o.ways.n - g) (0) (⟨_, _, _, _, upds_eq ⟨rfl, rfl, rfl, rfl, trivial⟩, by first | omega | rfl | with_reducible assumption | (simp; done) | (simp; omega), by simp, by simp only [List.length_append]; omega, S⟩) ?_
  rintro g f w ⟨u, Kk, Ck, q, rfl, hg, hq, hql, S⟩
  refine s_seq (s_plain ?_)
  refine p_val (e_lss rfl rfl) rfl ?_
  refine p_nil (x_then (s_seq ?_))
  refine s_cond rfl (fun hc18 => ?_) (fun hc18 => ?_)
  · obtain ⟨y, hat0, hym⟩ := some_at h1 (g := g) (by omega)
    have hat : o.ways.xs[(g : Int).toNat]? = some y := hat0
    obtain ⟨⟨k1, k2, _, RK, oRK⟩, hh⟩ := h3 y hym
    rw [iv_map] at RK
    have hkn := hk y hym
    have f1 := num_len (y.keys.n : Int)
    have f2 := nums_len y.keys.xs
    have f3 := nums_len [y.af, y.wt]
    simp only [List.length_cons, List.length_nil] at f3
    refine s_skip (x_then (s_seq (s_block (s_seq (s_plain ?_)))))
    refine p_val (e_ixR (S.rdOff RW oRW) (by decide) rfl rfl Try.underlying145 sz149 (by omega)) rfl ?_
    refine p_val (e_loadRA rfl ag149 sz149 (by decide) ((Rd.elemA (S.rdOff RW oRW) (fun x hx => wayV_len (h3 x hx).2) (hat)))) rfl ?_
    refine p_does (d_allocA S zs149) rfl ?_
    rintro _ w ⟨b5, rfl, S⟩
    refine p_does (d_storeW S 0 rfl rfl (by intro v hv; simp [wayV, wayC, cat] at hv; rcases hv with rfl | hv | rfl | rfl; rfl; exact bv_one _ _ hv; rfl; rfl) sz149 (by first | with_reducible assumption | (rw [bv_length]; with_reducible assumption) | (rw [List.size_toArray, bv_length]; with_reducible assumption) | (simp [cat, outC, Value.cells, wayC, wayV, hh]; done) | (simp [cat, outC, Value.cells, wayC, wayV, hh]; omega) | rfl) rfl rfl (by first | with_reducible assumption | (rw [bv_length]; with_reducible assumption) | (rw [List.size_toArray, bv_length]; with_reducible assumption) | (simp [cat, outC, Value.cells, wayC, wayV, hh]; done) | (simp [cat, outC, Value.cells, wayC, wayV, hh]; omega) | rfl)) rfl ?_
    intro _ w S
    refine p_nil (x_then (s_seq (s_plain ?_)))
    refine p_val (e_move (v := .pointer _) rfl) rfl ?_
    refine p_val (e_field rfl Try.underlying149 rfl sz128 (by decide)) rfl ?_
    refine p_val (e_loadF1 (i := 0) (off := 0) rfl ag128 S (j := 0) rfl rfl rfl (by first | with_reducible assumption | (rw [bv_length]; with_reducible assumption) | (rw [List.size_toArray, bv_length]; with_reducible assumption) | (simp [cat, outC, Value.cells]; done) | (simp [cat, outC, Value.cells]; omega) | rfl)) rfl ?_
    refine p_val (e_len rfl Try.underlying128) rfl ?_
    refine p_does (d_call Try.func90 nm90 rfl rfl (pen_num _ _ _ _ _ _ (S.hr [3, 4] rfl) (by first | omega | (simp only [List.length_append, List.length_cons, List.length_nil, bv_length, outC, Value.cells]; omega) | (simp [cat, outC, Value.cells]; omega)))) rfl ?_
    rintro _ w ⟨rfl, k25, c25, T⟩
    have S := (S.call [3, 4] T rfl).pk [2, 3, 4, 0, 1] rfl
    refine p_nil (x_then (s_seq (s_plain ?_)))
    refine p_val (e_move (v := .pointer _) rfl) rfl ?_
    refine p_val (e_field rfl Try.underlying149 rfl sz128 (by decide)) rfl ?_
    refine p_val (e_loadF1 (i := 0) (off := 0) rfl ag128 S (j := 0) rfl rfl rfl (by first | with_reducible assumption | (rw [bv_length]; with_reducible assumption) | (rw [List.size_toArray, bv_length]; with_reducible assumption) | (simp [cat, outC, Value.cells]; done) | (simp [cat, outC, Value.cells]; omega) | rfl)) rfl ?_
    refine p_does (d_call Try.func64 nm64 rfl rfl (pen_nums _ _ _ _ _ y.keys.xs _ _ _ (S.hr [3, 4] rfl) (S.rdOff RK oRK) (S.offOld [3, 4] RK (by decide) oRK rfl) (by first | omega | (simp only [List.length_append, List.length_cons, List.length_nil, bv_length, outC, Value.cells]; omega) | (simp [cat, outC, Value.cells]; omega)) (by omega))) rfl ?_
    rintro _ w ⟨rfl, k29, c29, T⟩
    have S := (S.call [3, 4] T rfl).pk [2, 3, 4, 0, 1] rfl
    refine p_nil (x_then (s_seq (s_plain ?_)))
    refine p_val (e_move (v := .pointer _) rfl) rfl ?_
    refine p_val (e_field rfl Try.underlying149 rfl sz29 (by decide)) rfl ?_
    refine p_val (e_loadFA (i := 1) (off := 1) rfl ag29 sz29 (by decide) S (j := 0) rfl rfl rfl (by first | with_reducible assumption | (rw [bv_length]; with_reducible assumption) | (rw [List.size_toArray, bv_length]; with_reducible assumption) | (simp [cat, outC, Value.cells, wayC, hh]; done) | (simp [cat, outC, Value.cells, wayC, hh]; omega) | rfl) (by first | with_reducible assumption | (rw [bv_length]; with_reducible assumption) | (rw [List.size_toArray, bv_length]; with_reducible assumption) | (simp [cat, outC, Value.cells, wayC, hh]; done) | (simp [cat, outC, Value.cells, wayC, hh]; omega) | rfl)) rfl ?_
    refine p_does (d_call Try.func65 nm65 rfl rfl (pen_sum _ _ _ _ _ _ (S.hr [3, 4] rfl) (by first | with_reducible assumption | (rw [bv_length]; with_reducible assumption) | (rw [List.size_toArray, bv_length]; with_reducible assumption) | (simp [cat, outC, Value.cells]; done) | (simp [cat, outC, Value.cells]; omega) | rfl) (by first | omega | (simp only [List.length_append, List.length_cons, List.length_nil, bv_length, outC, Value.cells]; omega) | (simp [cat, outC, Value.cells]; omega)))) rfl ?_
    rintro _ w ⟨rfl, k33, c33, T⟩
    have S := (S.call [3, 4] T rfl).pk [2, 3, 4, 0, 1] rfl
    refine p_nil (x_then (s_plain ?_))
    refine p_val (e_move (v := .pointer _) rfl) rfl ?_
    refine p_val (e_field rfl Try.underlying149 rfl sz3 (by decide)) rfl ?_
    refine p_val (e_loadF1 (i := 2) (off := 33) rfl ag3 S (j := 0) rfl rfl rfl (by first | with_reducible assumption | (rw [bv_length]; with_reducible assumption) | (rw [List.size_toArray, bv_length]; with_reducible assumption) | (simp [cat, outC, Value.cells, wayC, hh]; done) | (simp [cat, outC, Value.cells, wayC, hh]; omega) | rfl)) rfl ?_
    refine p_val (e_field rfl Try.underlying149 rfl sz3 (by decide)) rfl ?_
    refine p_val (e_loadF1 (i := 3) (off := 34) rfl ag3 S (j := 0) rfl rfl rfl (by first | with_reducible assumption | (rw [bv_length]; with_reducible assumption) | (rw [List.size_toArray, bv_length]; with_reducible assumption) | (simp [cat, outC, Value.cells, wayC, hh]; done) | (simp [cat, outC, Value.cells, wayC, hh]; omega) | rfl)) rfl ?_
    refine p_does (d_litI S Try.underlying128 sz3 zv3 rfl (l := [_, _]) rfl rfl (by decide)) rfl ?_
    rintro _ w ⟨b39, rfl, S⟩
    refine p_does (d_call Try.func64 nm64 rfl rfl (pen_nums _ _ _ _ _ _ _ _ _ (S.hr [4, 5] rfl) (S.rdRw 0 rfl rfl) (S.offRow 0 [4, 5] rfl rfl) (by first | omega | (simp only [List.length_append, List.length_cons, List.length_nil, bv_length, outC, Value.cells]; omega) | (simp [cat, outC, Value.cells]; omega)) (by decide))) rfl ?_
    rintro _ w ⟨rfl, k40, c40, T⟩
    have S := (S.call [4, 5] T rfl).pk [2, 3, 4, 5, 0, 1] rfl
    refine p_nil (x_in (x_then (s_plain ?_)))
    refine p_val (e_add64 rfl rfl (by omega)) rfl ?_
    refine p_val (e_move (v := .int _ _) rfl) rfl ?_
    refine p_nil ?_
    refine x_round (g + 1) _ rfl ⟨_, _, _, _, upds_eq ⟨rfl, rfl, rfl, rfl, trivial⟩, by first | omega | rfl | with_reducible assumption | (simp; done) | (simp; omega), by rw [take_flat hat0, hq]; unfold twayB; simp only [List.append_assoc], by simp only [List.length_append]; omega, S.pk [2, 3, 4, 5] rfl⟩ (by omega)
  · refine s_exit (x_then_exit (x_then_exit (x_in_same (post_end ?_))))
    exact post0 Try.results102 (by obtain rfl : g = o.ways.n := (by omega); rw [← h1, List.take_length] at hq; have e : q = l ++ toutB o := (by rw [hq, h1]; unfold toutB; simp only [List.append_assoc]); rw [← e]; exact ⟨rfl, _, _, S.pk [2, 3] rfl⟩)
theorem tx_body (w0 : World) (hb : Nat) (k : Option Nat) (c : Nat) (l : List Nat) (x : TxV) (S0 : St w0 w0 (exOf [some hb, k]) [some hb, k] [penE k c l, penR c l]) (hX : TxOk w0 (exOf [some hb, k]) x) (hl : l.length ≤ 1000000) (hs : TxSm x) :
    Ret Try.prog 91 [.pointer (some ⟨hb, 0, none⟩), .agg (cat (txC x)).toArray, .bool false] w0 fun v w' => v = .tuple #[] ∧ ∃ k' c', St w0 w' (exOf [some hb, k]) [some hb, k'] [penE k' c' (l ++ tbodyB x), penR c' (l ++ tbodyB x)] := by
  refine enter Try.func91 rfl Try.ntmps91 (Nat.le_of_ble_eq_true rfl) ?_
  have S := S0
  obtain ⟨i1, i2, i3, RI, oRI⟩ := hX.ins
  obtain ⟨o1, o2, o3, RO, oRO⟩ := hX.outs
  obtain ⟨d1, d2, _, RD, oRD⟩ := hX.data
  rw [bv_map] at RD
  have hrt := hX.root
  have s1 := hs.ins
  have s2 := hs.outs
  have s3 := hs.data
  have n1 := num_len (x.ins.n : Int)
  have n2 := num_len (x.outs.n : Int)
  have n3 := num_len (x.data.xs.length : Int)
  have n4 := nums_len [x.k, x.t, x.c, x.am]
  simp only [List.length_cons, List.length_nil] at n4
  refine s_seq (s_plain ?_)
  refine p_does (d_boxA S rfl) rfl ?_
  rintro _ w ⟨b4, rfl, S⟩
  refine p_nil (x_then (s_seq (s_plain ?_)))
  refine p_val (e_move (v := .pointer _) rfl) rfl ?_
  refine p_val (e_field rfl Try.underlying87 rfl sz81 (by decide)) rfl ?_
  refine p_val (e_loadF1 (i := 0) (off := 0) rfl ag81 S (j := 0) rfl rfl rfl (by first | with_reducible assumption | (rw [bv_length]; with_reducible assumption) | (rw [List.size_toArray, bv_length]; with_reducible assumption) | (simp [cat, txC, Value.cells, hrt]; done) | (simp [cat, txC, Value.cells, hrt]; omega) | rfl)) rfl ?_
  refine p_val (e_len rfl Try.underlying81) rfl ?_
  refine p_does (d_call Try.func90 nm90 rfl rfl (pen_num _ _ _ _ _ _ (S.hr [1, 2] rfl) (by first | omega | (simp only [List.length_append, List.length_cons, List.length_nil, bv_length, txC, Value.cells, hrt]; omega) | (simp [cat, txC, Value.cells, hrt]; omega)))) rfl ?_
  rintro _ w ⟨rfl, k15, c15, T⟩
  have S := (S.call [1, 2] T rfl).pk [2, 0, 1] rfl
  refine p_nil (x_then (s_seq (s_seq (s_plain ?_))))
  refine p_val (e_field rfl Try.underlying87 rfl sz81 (by decide)) rfl ?_
  refine p_val (e_loadF1 (i := 0) (off := 0) rfl ag81 S (j := 0) rfl rfl rfl (by first | with_reducible assumption | (rw [bv_length]; with_reducible assumption) | (rw [List.size_toArray, bv_length]; with_reducible assumption) | (simp [cat, txC, Value.cells, hrt]; done) | (simp [cat, txC, Value.cells, hrt]; omega) | rfl)) rfl ?_
  refine p_val (e_len rfl Try.underlying81) rfl ?_
  refine p_val (e_move (v := .int _ _) rfl) rfl ?_
  refine p_nil (x_then (s_block ?_))
  refine s_loopK (α := Nat) (ks := [some b4, some hb, k15]) (ps := [Ex _ _, Ex _ _, Rw _ _ _ _ _]) [(0, .pointer _), (2, .bool _), (4, .pointer _), (17, .slice _ _ _), (18, .int _ _)] ⟨rfl, rfl, rfl, rfl, rfl, trivial⟩ S (fun keep ks ps g f' w' => ∃ u Kk Ck q, f' = upds u ((19, .int .i64 (g : Int)) :: keep) ∧ (g ≤ x.ins.n) ∧ (q = l ++ num (x.ins.n : Int) ++ (x.ins.xs.take g).flatMap tinB) ∧ (q.length ≤ l.length + 10 + 52 * g) ∧ St w0 w' (exOf [some hb, k]) [some b4, some hb, Kk] [(ps.getD 0 fun _ => True), penE Kk Ck q, Rw 5 1 ((List.length q)) Ck (bv q)]) (fun g => x.ins.n - g) (0) (⟨_, _, _, _, upds_eq ⟨rfl, rfl, rfl, rfl, rfl, rfl, trivial⟩, by first | omega | rfl | with_reducible assumption | (simp; done) | (simp; omega), by simp, by simp only [List.length_append]; omega, S⟩) ?_
  rintro g f w ⟨u, Kk, Ck, q, rfl, hg, hq, hql, S⟩
  refine s_seq (s_plain ?_)
  refine p_val (e_lss rfl rfl) rfl ?_
  refine p_nil (x_then (s_seq ?_))
  refine s_cond rfl (fun hc20 => ?_) (fun hc20 => ?_)
  · obtain ⟨y, hat0, hym⟩ := some_at i1 (g := g) (by omega)
    have hat : x.ins.xs[(g : Int).toNat]? = some y := hat0
    have hyok := i3 y hym
    obtain ⟨hh, _⟩ := hyok
    have f1 := nums_len [y.at_, y.way]
    simp only [List.length_cons, List.length_nil] at f1
    refine s_skip (x_then (s_seq ?_))
    refine s_cutK (ks := [some b4, some hb, Kk]) (ps := [Ex _ _, Ex _ _, Rw _ _ _ _ _]) [(0, .pointer _), (2, .bool _), (4, .pointer _), (17, .slice _ _ _), (18, .int _ _), (19, .int _ _)] ⟨rfl, rfl, rfl, rfl, rfl, rfl, trivial⟩ S (fun keep ks ps f' w' => ∃ u Kk Ck q2, f' = upds u (keep) ∧ (q2 = q ++ tinB y) ∧ St w0 w' (exOf [some hb, k]) [some b4, some hb, Kk] [(ps.getD 0 fun _ => True), penE Kk Ck q2, Rw 5 1 ((List.length q2)) Ck (bv q2)]) ?_ ?_
    · refine s_block (s_seq (s_plain ?_))
      refine p_val (e_ixR (S.rdOff RI oRI) (by decide) rfl rfl Try.underlying81 sz144 (by omega)) rfl ?_
      refine p_val (e_loadRA rfl ag144 sz144 (by decide) ((Rd.elemA (S.rdOff RI oRI) (fun x hx => inV_len (i3 x hx).1) (hat)))) rfl ?_
      refine p_does (d_allocA S zs144) rfl ?_
      rintro _ w ⟨b7, rfl, S⟩
      refine p_does (d_storeW S 0 rfl rfl (by intro v hv; simp [inV, inC, cat] at hv; rcases hv with hv | rfl | rfl | rfl; exact bv_one _ _ hv; rfl; rfl; rfl) sz144 (by first | with_reducible assumption | (rw [bv_length]; with_reducible assumption) | (rw [List.size_toArray, bv_length]; with_reducible assumption) | (simp [cat, txC, Value.cells, hrt, inC, inV, hh]; done) | (simp [cat, txC, Value.cells, hrt, inC, inV, hh]; omega) | rfl) rfl rfl (by first | with_reducible assumption | (rw [bv_length]; with_reducible assumption) | (rw [List.size_toArray, bv_length]; with_reducible assumption) | (simp [cat, txC, Value.cells, hrt, inC, inV, hh]; done) | (simp [cat, txC, Value.cells, hrt, inC, inV, hh]; omega) | rfl)) rfl ?_
      intro _ w S
      refine p_nil (x_then (s_seq ?_))
      refine s_cutK (ks := [some b7, some b4, some hb, Kk]) (ps := [Ex _ _, Ex _ _, Ex _ _, Rw _ _ _ _ _]) [(0, .pointer _), (2, .bool _), (4, .pointer _), (7, .pointer _), (17, .slice _ _ _), (18, .int _ _), (19, .int _ _)] ⟨rfl, rfl, rfl, rfl, rfl, rfl, rfl, trivial⟩ S (fun keep ks ps f' w' => ∃ u Kk Ck q5, f' = upds u (keep) ∧ (q5 = q ++ y.tx ++ nums [y.at_, y.way]) ∧ St w0 w' (exOf [some hb, k]) [some b7, some b4, some hb, Kk] [(ps.getD 0 fun _ => True), (ps.getD 1 fun _ => True), penE Kk Ck q5, Rw 5 1 ((List.length q5)) Ck (bv q5)]) ?_ ?_
      · refine s_drawTK (ks := [some b7, some b4]) (ps := [Ex _ _, Ex _ _]) (S.pk [0, 1] rfl) (.sq [(true, 0), (true, 1), (true, 2), (true, 3), (true, 5), (true, 6), (true, 7), (true, 8), (true, 9)] (.fork 4 (.sq [(false, 10), (false, 11)] .stop) (.fork 10 (.sq [(false, 4), (false, 11)] .stop) .none_))) [] [] mixed (by kernel_rfl) (by repeat (first | exact Calm.post _ _ _ | refine Calm.then ?_ _ | refine Calm.inB ?_ _)) (fun hS => ?_)
        have S := S.drew
        refine t_sq ?_
        refine q_val (fun w hS => e_move (v := .pointer _) rfl) rfl hS ?_
        refine q_val (fun w hS => e_field rfl Try.underlying144 rfl sz142 (by decide)) rfl hS ?_
        refine q_val (fun w hS => e_field rfl Try.underlying142 rfl sz29 (by decide)) rfl hS ?_
        refine q_val (fun w hS => e_loadFA (i := 0) (off := 0) rfl ag29 sz29 (by decide) hS (j := 0) rfl rfl rfl (by first | with_reducible assumption | (rw [bv_length]; with_reducible assumption) | (rw [List.size_toArray, bv_length]; with_reducible assumption) | (simp [cat, txC, Value.cells, hrt, inC, hh]; done) | (simp [cat, txC, Value.cells, hrt, inC, hh]; omega) | rfl) (by first | with_reducible assumption | (rw [bv_length]; with_reducible assumption) | (rw [List.size_toArray, bv_length]; with_reducible assumption) | (simp [cat, txC, Value.cells, hrt, inC, hh]; done) | (simp [cat, txC, Value.cells, hrt, inC, hh]; omega) | rfl)) rfl hS ?_
        refine q_val (fun w hS => e_field rfl Try.underlying144 rfl sz142 (by decide)) rfl hS ?_
        refine q_val (fun w hS => e_field rfl Try.underlying142 rfl sz3 (by decide)) rfl hS ?_
        refine q_val (fun w hS => e_loadF1 (i := 1) (off := 32) rfl ag3 hS (j := 0) rfl rfl rfl (by first | with_reducible assumption | (rw [bv_length]; with_reducible assumption) | (rw [List.size_toArray, bv_length]; with_reducible assumption) | (simp [cat, txC, Value.cells, hrt, inC, hh]; done) | (simp [cat, txC, Value.cells, hrt, inC, hh]; omega) | rfl)) rfl hS ?_
        refine q_val (fun w hS => e_field rfl Try.underlying144 rfl sz3 (by decide)) rfl hS ?_
        refine q_val (fun w hS => e_loadF1 (i := 2) (off := 33) rfl ag3 hS (j := 0) rfl rfl rfl (by first | with_reducible assumption | (rw [bv_length]; with_reducible assumption) | (rw [List.size_toArray, bv_length]; with_reducible assumption) | (simp [cat, txC, Value.cells, hrt, inC, hh]; done) | (simp [cat, txC, Value.cells, hrt, inC, hh]; omega) | rfl)) rfl hS ?_
        refine q_nil ?_
        refine t_fork ?_ ?_
        · refine q_does (d_call Try.func65 nm65 rfl rfl (pen_sum _ _ _ _ _ _ (S.hr [2, 3] rfl) (by first | with_reducible assumption | (rw [bv_length]; with_reducible assumption) | (rw [List.size_toArray, bv_length]; with_reducible assumption) | (simp [cat, txC, Value.cells, hrt]; done) | (simp [cat, txC, Value.cells, hrt]; omega) | rfl) (by first | omega | (simp only [List.length_append, List.length_cons, List.length_nil, bv_length, txC, Value.cells, hrt]; omega) | (simp [cat, txC, Value.cells, hrt]; omega)))) rfl ?_
          rintro _ w ⟨rfl, k27, c27, T⟩
          have S := (S.call [2, 3] T rfl).pk [2, 3, 0, 1] rfl
          have hS := S.pk [0, 1] rfl
          refine ⟨hS, ?_⟩
          refine q_nil ?_
          refine t_sq ?_
          refine q_does (d_litI S Try.underlying128 sz3 zv3 rfl (l := [_, _]) rfl rfl (by decide)) rfl ?_
          rintro _ w ⟨y33, rfl, S⟩
          have hS := S.pk [1, 2] rfl
          refine ⟨hS, ?_⟩
          refine q_does (d_call Try.func64 nm64 rfl rfl (pen_nums _ _ _ _ _ _ _ _ _ (S.hr [3, 4] rfl) (S.rdRw 0 rfl rfl) (S.offRow 0 [3, 4] rfl rfl) (by first | omega | (simp only [List.length_append, List.length_cons, List.length_nil, bv_length, txC, Value.cells, hrt]; omega) | (simp [cat, txC, Value.cells, hrt]; omega)) (by decide))) rfl ?_
          rintro _ w ⟨rfl, k34, c34, T⟩
          have S := (S.call [3, 4] T rfl).pk [2, 3, 4, 0, 1] rfl
          have hS := S.pk [1, 2] rfl
          refine ⟨hS, ?_⟩
          refine q_nil ?_
          exact t_stop (p_nil (x_then ⟨_, rfl, _, _, _, _, upds_eq ⟨rfl, rfl, rfl, rfl, rfl, rfl, rfl, trivial⟩, rfl, S.pk [1, 2, 3, 4] rfl⟩))
        · refine t_fork ?_ ?_
          · refine q_does (d_litI S Try.underlying128 sz3 zv3 rfl (l := [_, _]) rfl rfl (by decide)) rfl ?_
            rintro _ w ⟨y33, rfl, S⟩
            have hS := S.pk [1, 2] rfl
            refine ⟨hS, ?_⟩
            refine q_nil ?_
            refine t_sq ?_
            refine q_does (d_call Try.func65 nm65 rfl rfl (pen_sum _ _ _ _ _ _ (S.hr [3, 4] rfl) (by first | with_reducible assumption | (rw [bv_length]; with_reducible assumption) | (rw [List.size_toArray, bv_length]; with_reducible assumption) | (simp [cat, txC, Value.cells, hrt]; done) | (simp [cat, txC, Value.cells, hrt]; omega) | rfl) (by first | omega | (simp only [List.length_append, List.length_cons, List.length_nil, bv_length, txC, Value.cells, hrt]; omega) | (simp [cat, txC, Value.cells, hrt]; omega)))) rfl ?_
            rintro _ w ⟨rfl, k27, c27, T⟩
            have S := (S.call [3, 4] T rfl).pk [2, 3, 4, 0, 1] rfl
            have hS := S.pk [1, 2] rfl
            refine ⟨hS, ?_⟩
            refine q_does (d_call Try.func64 nm64 rfl rfl (pen_nums _ _ _ _ _ _ _ _ _ (S.hr [3, 4] rfl) (S.rdRw 0 rfl rfl) (S.offRow 0 [3, 4] rfl rfl) (by first | omega | (simp only [List.length_append, List.length_cons, List.length_nil, bv_length, txC, Value.cells, hrt]; omega) | (simp [cat, txC, Value.cells, hrt]; omega)) (by decide))) rfl ?_
            rintro _ w ⟨rfl, k34, c34, T⟩
            have S := (S.call [3, 4] T rfl).pk [2, 3, 4, 0, 1] rfl
            have hS := S.pk [1, 2] rfl
            refine ⟨hS, ?_⟩
            refine q_nil ?_
            exact t_stop (p_nil (x_then ⟨_, rfl, _, _, _, _, upds_eq ⟨rfl, rfl, rfl, rfl, rfl, rfl, rfl, trivial⟩, rfl, S.pk [1, 2, 3, 4] rfl⟩))
          · exact t_none
      · rintro f w ⟨u, Kk, Ck, q5, rfl, h5, S⟩
        refine x_then (s_seq (s_plain ?_))
        refine p_val (e_move (v := .bool _) rfl) rfl ?_
        refine p_nil (x_then ?_)
        refine s_condb rfl (fun hc35 => ?_) (fun hc35 => ?_)
        · exact False.elim (by cases hc35)
        · refine s_skip (x_in ?_)
          exact x_then ⟨_, rfl, _, _, _, _, upds_eq ⟨rfl, rfl, rfl, rfl, rfl, rfl, trivial⟩, by rw [h5]; unfold tinB; simp only [List.append_assoc], S.pk [1, 2, 3] rfl⟩
    · rintro f w ⟨u, Kk, Ck, q2, rfl, hq2, S⟩
      refine x_then (s_plain ?_)
      refine p_val (e_add64 rfl rfl (by omega)) rfl ?_
      refine p_val (e_move (v := .int _ _) rfl) rfl ?_
      refine p_nil ?_
      refine x_round (g + 1) _ rfl ⟨_, _, _, _, upds_eq ⟨rfl, rfl, rfl, rfl, rfl, rfl, trivial⟩, by first | omega | rfl | with_reducible assumption | (simp; done) | (simp; omega), by rw [take_flat hat0, hq2, hq]; simp only [List.append_assoc], by have := tinB_len (hX.ins.2.2.1 y hym); rw [hq2, List.length_append]; omega, S⟩ (by omega)
  · refine s_exit (x_then_exit (x_then_exit (x_in_same (x_then (s_seq (s_plain ?_))))))
    obtain rfl : g = x.ins.n := by omega
    rw [← i1, List.take_length, i1] at hq
    refine p_val (e_move (v := .pointer _) rfl) rfl ?_
    refine p_val (e_field rfl Try.underlying87 rfl sz82 (by decide)) rfl ?_
    refine p_val (e_loadF1 (i := 1) (off := 1) rfl ag82 S (j := 0) rfl rfl rfl (by first | with_reducible assumption | (rw [bv_length]; with_reducible assumption) | (rw [List.size_toArray, bv_length]; with_reducible assumption) | (simp [cat, txC, Value.cells, hrt]; done) | (simp [cat, txC, Value.cells, hrt]; omega) | rfl)) rfl ?_
    refine p_val (e_len rfl Try.underlying82) rfl ?_
    refine p_does (d_call Try.func90 nm90 rfl rfl (pen_num _ _ _ _ _ _ (S.hr [1, 2] rfl) (by first | omega | (simp only [List.length_append, List.length_cons, List.length_nil, bv_length, txC, Value.cells, hrt]; omega) | (simp [cat, txC, Value.cells, hrt]; omega)))) rfl ?_
    rintro _ w ⟨rfl, k45, c45, T⟩
    have S := (S.call [1, 2] T rfl).pk [2, 0, 1] rfl
    refine p_nil (x_then (s_seq (s_seq (s_plain ?_))))
    refine p_val (e_field rfl Try.underlying87 rfl sz82 (by decide)) rfl ?_
    refine p_val (e_loadF1 (i := 1) (off := 1) rfl ag82 S (j := 0) rfl rfl rfl (by first | with_reducible assumption | (rw [bv_length]; with_reducible assumption) | (rw [List.size_toArray, bv_length]; with_reducible assumption) | (simp [cat, txC, Value.cells, hrt]; done) | (simp [cat, txC, Value.cells, hrt]; omega) | rfl)) rfl ?_
    refine p_val (e_len rfl Try.underlying82) rfl ?_
    refine p_val (e_move (v := .int _ _) rfl) rfl ?_
    refine p_nil (x_then (s_block ?_))
    refine s_loopK (α := Nat) (ks := [some b4, some hb, k45]) (ps := [Ex _ _, Ex _ _, Rw _ _ _ _ _]) [(0, .pointer _), (4, .pointer _), (47, .slice _ _ _), (48, .int _ _)] ⟨rfl, rfl, rfl, rfl, trivial⟩ S (fun keep ks ps g f' w' => ∃ u Kk Ck p, f' = upds u ((49, .int .i64 (g : Int)) :: keep) ∧ (g ≤ x.outs.n) ∧ (p = l ++ num (x.ins.n : Int) ++ x.ins.xs.flatMap tinB ++ num (x.outs.n : Int) ++ (x.outs.xs.take g).flatMap toutB) ∧ (p.length ≤ l.length + 1070 + 5260 * g) ∧ St w0 w' (exOf [some hb, k]) [some b4, some hb, Kk] [(ps.getD 0 fun _ => True), penE Kk Ck p, Rw 5 1 ((List.length p)) Ck (bv p)]) (fun g => x.outs.n - g) (0) (⟨_, _, _, _, upds_eq ⟨rfl, rfl, rfl, rfl, rfl, trivial⟩, by first | omega | rfl | with_reducible assumption | (simp; done) | (simp; omega), by rw [hq]; simp, by simp only [List.length_append]; omega, S⟩) ?_
    rintro g f w ⟨u, Kk, Ck, p, rfl, hg, hp, hpl, S⟩
    refine s_seq (s_plain ?_)
    refine p_val (e_lss rfl rfl) rfl ?_
    refine p_nil (x_then (s_seq ?_))
    refine s_cond rfl (fun hc50 => ?_) (fun hc50 => ?_)
    · obtain ⟨y, hat0, hym⟩ := some_at o1 (g := g) (by omega)
      have hat : x.outs.xs[(g : Int).toNat]? = some y := hat0
      have hy := o3 y hym
      refine s_skip (x_then (s_seq (s_block (s_seq (s_plain ?_)))))
      refine p_val (e_ixR (S.rdOff RO oRO) (by decide) rfl rfl Try.underlying82 sz147 (by omega)) rfl ?_
      refine p_val (e_loadRA rfl ag147 sz147 (by decide) ((Rd.elemA (S.rdOff RO oRO) (fun x hx => rfl) (hat)))) rfl ?_
      refine p_does (d_allocA S zs147) rfl ?_
      rintro _ w ⟨b9, rfl, S⟩
      refine p_does (d_storeW S 0 rfl rfl (by intro v hv; simp [outV, outC, cat] at hv; rcases hv with rfl | rfl <;> rfl) sz147 (by first | with_reducible assumption | (rw [bv_length]; with_reducible assumption) | (rw [List.size_toArray, bv_length]; with_reducible assumption) | (simp [cat, txC, Value.cells, hrt, outC, outV]; done) | (simp [cat, txC, Value.cells, hrt, outC, outV]; omega) | rfl) rfl rfl (by first | with_reducible assumption | (rw [bv_length]; with_reducible assumption) | (rw [List.size_toArray, bv_length]; with_reducible assumption) | (simp [cat, txC, Value.cells, hrt, outC, outV]; done) | (simp [cat, txC, Value.cells, hrt, outC, outV]; omega) | rfl)) rfl ?_
      intro _ w S
      refine p_nil (x_then (s_plain ?_))
      refine p_val (e_move (v := .pointer _) rfl) rfl ?_
      refine p_val (e_loadW 0 rfl ag147 sz147 S rfl rfl (by first | with_reducible assumption | (rw [bv_length]; with_reducible assumption) | (rw [List.size_toArray, bv_length]; with_reducible assumption) | (simp [cat, txC, Value.cells, hrt, outC, outV]; done) | (simp [cat, txC, Value.cells, hrt, outC, outV]; omega) | rfl)) rfl ?_
      refine p_does (d_call Try.func102 nm102 rfl rfl (lk_put _ _ _ _ _ y (S.hr [2, 3] rfl) (hy.carry (S.carry [2, 3] rfl)) (by omega) (hs.ways y hym) (hs.keys y hym))) rfl ?_
      rintro _ w ⟨rfl, k55, c55, T⟩
      have S := (S.call [2, 3] T rfl).pk [2, 3, 0, 1] rfl
      refine p_nil (x_in (x_then (s_plain ?_)))
      refine p_val (e_add64 rfl rfl (by omega)) rfl ?_
      refine p_val (e_move (v := .int _ _) rfl) rfl ?_
      refine p_nil ?_
      refine x_round (g + 1) _ rfl ⟨_, _, _, _, upds_eq ⟨rfl, rfl, rfl, rfl, rfl, trivial⟩, by first | omega | rfl | with_reducible assumption | (simp; done) | (simp; omega), by rw [take_flat hat0, hp]; simp only [List.append_assoc], by have := toutB_len hy (hs.ways y hym) (hs.keys y hym); rw [List.length_append]; omega, S.pk [1, 2, 3] rfl⟩ (by omega)
    · refine s_exit (x_then_exit (x_then_exit (x_in_same (x_then (s_seq (s_plain ?_))))))
      refine p_val (e_field rfl Try.underlying87 rfl sz84 (by decide)) rfl ?_
      refine p_val (e_loadFS (i := 2) (n := 6) (off := 2) rfl ag84 sz84 (by decide) S (j := 0) rfl rfl (by first | with_reducible assumption | (rw [bv_length]; with_reducible assumption) | (rw [List.size_toArray, bv_length]; with_reducible assumption) | (simp [cat, txC, Value.cells, hrt]; done) | (simp [cat, txC, Value.cells, hrt]; omega) | rfl) (by first | with_reducible assumption | (rw [bv_length]; with_reducible assumption) | (rw [List.size_toArray, bv_length]; with_reducible assumption) | (simp [cat, txC, Value.cells, hrt]; done) | (simp [cat, txC, Value.cells, hrt]; omega) | rfl)) rfl ?_
      refine p_does (d_allocA S zs84) rfl ?_
      rintro _ w ⟨b10, rfl, S⟩
      refine p_does (d_storeW S 0 rfl rfl (by first | exact bv_one _ | exact sv_one _ | exact iv_one _ | with_reducible assumption | (refine One.mem ?_; repeat (first | exact One.bv _ | exact One.sv _ | exact One.iv _ | exact One.nil | exact One.cat0 | refine One.cat1 ?_ ?_ | refine One.cons rfl ?_ | refine One.append ?_ ?_))) sz84 (by first | with_reducible assumption | (rw [bv_length]; with_reducible assumption) | (rw [List.size_toArray, bv_length]; with_reducible assumption) | (simp [cat, txC, Value.cells, hrt]; done) | (simp [cat, txC, Value.cells, hrt]; omega) | rfl) rfl rfl (by first | with_reducible assumption | (rw [bv_length]; with_reducible assumption) | (rw [List.size_toArray, bv_length]; with_reducible assumption) | (simp [cat, txC, Value.cells, hrt]; done) | (simp [cat, txC, Value.cells, hrt]; omega) | rfl)) rfl ?_
      intro _ w S
      refine p_nil (x_then ?_)
      refine s_drawK (ks := [some b10, some b4]) (ps := [Ex _ _, Ex _ _]) (S.pk [0, 1] rfl) [(true, 0), (true, 1), (true, 2), (true, 3), (true, 4), (true, 5), (true, 6), (true, 7), (true, 8), (true, 11), (true, 12), (true, 14), (true, 15), (false, 9), (false, 10), (false, 13), (false, 16)] [] [] mixed (by kernel_rfl) (by repeat (first | exact Calm.post _ _ _ | refine Calm.then ?_ _ | refine Calm.inB ?_ _)) (fun hS => ?_)
      have S := S.drew
      refine q_val (fun w hS => e_move (v := .pointer _) rfl) rfl hS ?_
      refine q_val (fun w hS => e_field rfl Try.underlying84 rfl sz3 (by decide)) rfl hS ?_
      refine q_val (fun w hS => e_loadF1 (i := 0) (off := 0) rfl ag3 hS (j := 0) rfl rfl rfl (by first | with_reducible assumption | (rw [bv_length]; with_reducible assumption) | (rw [List.size_toArray, bv_length]; with_reducible assumption) | (simp [cat, txC, Value.cells, hrt]; done) | (simp [cat, txC, Value.cells, hrt]; omega) | rfl)) rfl hS ?_
      refine q_val (fun w hS => e_field rfl Try.underlying84 rfl sz3 (by decide)) rfl hS ?_
      refine q_val (fun w hS => e_loadF1 (i := 1) (off := 1) rfl ag3 hS (j := 0) rfl rfl rfl (by first | with_reducible assumption | (rw [bv_length]; with_reducible assumption) | (rw [List.size_toArray, bv_length]; with_reducible assumption) | (simp [cat, txC, Value.cells, hrt]; done) | (simp [cat, txC, Value.cells, hrt]; omega) | rfl)) rfl hS ?_
      refine q_val (fun w hS => e_field rfl Try.underlying84 rfl sz3 (by decide)) rfl hS ?_
      refine q_val (fun w hS => e_loadF1 (i := 2) (off := 2) rfl ag3 hS (j := 0) rfl rfl rfl (by first | with_reducible assumption | (rw [bv_length]; with_reducible assumption) | (rw [List.size_toArray, bv_length]; with_reducible assumption) | (simp [cat, txC, Value.cells, hrt]; done) | (simp [cat, txC, Value.cells, hrt]; omega) | rfl)) rfl hS ?_
      refine q_val (fun w hS => e_field rfl Try.underlying84 rfl sz2 (by decide)) rfl hS ?_
      refine q_val (fun w hS => e_loadF1 (i := 3) (off := 3) rfl ag2 hS (j := 0) rfl rfl rfl (by first | with_reducible assumption | (rw [bv_length]; with_reducible assumption) | (rw [List.size_toArray, bv_length]; with_reducible assumption) | (simp [cat, txC, Value.cells, hrt]; done) | (simp [cat, txC, Value.cells, hrt]; omega) | rfl)) rfl hS ?_
      refine q_val (fun w hS => e_field rfl Try.underlying84 rfl sz29 (by decide)) rfl hS ?_
      refine q_val (fun w hS => e_loadFA (i := 4) (off := 4) rfl ag29 sz29 (by decide) hS (j := 0) rfl rfl rfl (by first | with_reducible assumption | (rw [bv_length]; with_reducible assumption) | (rw [List.size_toArray, bv_length]; with_reducible assumption) | (simp [cat, txC, Value.cells, hrt]; done) | (simp [cat, txC, Value.cells, hrt]; omega) | rfl) (by first | with_reducible assumption | (rw [bv_length]; with_reducible assumption) | (rw [List.size_toArray, bv_length]; with_reducible assumption) | (simp [cat, txC, Value.cells, hrt]; done) | (simp [cat, txC, Value.cells, hrt]; omega) | rfl)) rfl hS ?_
      refine q_val (fun w hS => e_field rfl Try.underlying84 rfl sz33 (by decide)) rfl hS ?_
      refine q_val (fun w hS => e_loadF1 (i := 5) (off := 36) rfl ag33 hS (j := 0) rfl rfl rfl (by first | with_reducible assumption | (rw [bv_length]; with_reducible assumption) | (rw [List.size_toArray, bv_length]; with_reducible assumption) | (simp [cat, txC, Value.cells, hrt]; done) | (simp [cat, txC, Value.cells, hrt]; omega) | rfl)) rfl hS ?_
      refine q_does (d_litI S Try.underlying128 sz3 zv3 rfl (l := [_, _, _, _]) rfl rfl (by decide)) rfl ?_
      rintro _ w ⟨b68, rfl, S⟩
      have hS := S.pk [1, 2] rfl
      refine ⟨hS, ?_⟩
      refine q_does (d_call Try.func64 nm64 rfl rfl (pen_nums _ _ _ _ _ _ _ _ _ (S.hr [3, 4] rfl) (S.rdRw 0 rfl rfl) (S.offRow 0 [3, 4] rfl rfl) (by first | omega | (simp only [List.length_append, List.length_cons, List.length_nil, bv_length, txC, Value.cells, hrt]; omega) | (simp [cat, txC, Value.cells, hrt]; omega)) (by decide))) rfl ?_
      rintro _ w ⟨rfl, k69, c69, T⟩
      have S := (S.call [3, 4] T rfl).pk [2, 3, 4, 0, 1] rfl
      have hS := S.pk [1, 2] rfl
      refine ⟨hS, ?_⟩
      refine q_does (d_call Try.func65 nm65 rfl rfl (pen_sum _ _ _ _ _ _ (S.hr [3, 4] rfl) (by first | with_reducible assumption | (rw [bv_length]; with_reducible assumption) | (rw [List.size_toArray, bv_length]; with_reducible assumption) | (simp [cat, txC, Value.cells, hrt]; done) | (simp [cat, txC, Value.cells, hrt]; omega) | rfl) (by first | omega | (simp only [List.length_append, List.length_cons, List.length_nil, bv_length, txC, Value.cells, hrt]; omega) | (simp [cat, txC, Value.cells, hrt]; omega)))) rfl ?_
      rintro _ w ⟨rfl, k72, c72, T⟩
      have S := (S.call [3, 4] T rfl).pk [2, 3, 4, 0, 1] rfl
      have hS := S.pk [1, 2] rfl
      refine ⟨hS, ?_⟩
      refine q_does (d_call Try.func66 nm66 rfl rfl (pen_text _ _ _ _ _ _ _ _ _ (S.hr [3, 4] rfl) (S.rdOff RD oRD) (S.offOld [3, 4] RD (by decide) oRD rfl) (by first | omega | (simp only [List.length_append, List.length_cons, List.length_nil, bv_length, txC, Value.cells, hrt]; omega) | (simp [cat, txC, Value.cells, hrt]; omega)))) rfl ?_
      rintro _ w ⟨rfl, k75, c75, T⟩
      have S := (S.call [3, 4] T rfl).pk [2, 3, 4, 0, 1] rfl
      have hS := S.pk [1, 2] rfl
      refine ⟨hS, ?_⟩
      refine q_nil (p_nil (post_end ?_))
      exact post0 Try.results91 (by obtain rfl : g = x.outs.n := (by omega); rw [← o1, List.take_length, o1] at hp; have e : p ++ nums [x.k, x.t, x.c, x.am] ++ x.root ++ num x.data.xs.length ++ x.data.xs = l ++ tbodyB x := (by rw [hp]; unfold tbodyB; simp only [List.append_assoc]); rw [← e]; exact ⟨rfl, _, _, S.pk [3, 4] rfl⟩)
theorem tx_sum (w0 : World) (x : TxV) (hX : TxOk w0 [] x) (hs : TxSm x) :
    Ret Try.prog 57 [.agg (cat (txC x)).toArray] w0 fun v w' => v = .agg (bv (txsum x)).toArray ∧ Below w0.heap.size w0 w' := by
  refine enter Try.func57 rfl Try.ntmps57 (Nat.le_of_ble_eq_true rfl) ?_
  have S := St.init w0
  have hbl := tbodyB_len hX hs
  refine s_seq (s_plain ?_)
  refine p_does (d_boxA S rfl) rfl ?_
  rintro _ w ⟨b1, rfl, S⟩
  refine p_does (d_allocA S zvS) rfl ?_
  rintro _ w ⟨b2, rfl, S⟩
  refine p_nil (x_then (s_seq (s_plain ?_)))
  refine p_does (d_allocA S zs98) rfl ?_
  rintro _ w ⟨b3, rfl, S⟩
  have S := pen_new S
  refine p_nil (x_then (s_seq (s_plain ?_)))
  refine p_val (e_loadW 3 rfl ag87 sz87 S rfl rfl (by first | with_reducible assumption | (rw [bv_length]; with_reducible assumption) | (rw [List.size_toArray, bv_length]; with_reducible assumption) | (simp [cat, txC, Value.cells, hX.root, length_zsum, length_txsum]; done) | (simp [cat, txC, Value.cells, hX.root, length_zsum, length_txsum]; omega) | rfl)) rfl ?_
  refine p_does (d_call Try.func91 nm91 rfl rfl (tx_body _ _ _ _ _ x (S.hr [0, 1] rfl) (hX.carry (S.carry [0, 1] rfl)) (by decide) hs)) rfl ?_
  rintro _ w ⟨rfl, k5, c5, T⟩
  have S := (S.call [0, 1] T rfl).pk [0, 1, 4, 5] rfl
  refine p_nil (x_then (s_seq (s_plain ?_)))
  refine p_does (d_call Try.func67 nm67 rfl rfl (pen_bytes _ _ _ _ _ (S.exact_ 0 rfl rfl) (S.rdRw 1 rfl rfl) (by first | omega | (simp only [List.length_append, List.length_cons, List.length_nil, bv_length, txC, Value.cells, hX.root, length_zsum, length_txsum]; omega) | (simp [cat, txC, Value.cells, hX.root, length_zsum, length_txsum]; omega)))) rfl ?_
  rintro _ w ⟨k6, c6, rfl, T⟩
  have S := S.merge T rfl
  refine p_does (d_lit1 S Try.underlying90 sz33 zv33 rfl (vs := [.slice _ _ _]) rfl rfl rfl (by decide)) rfl ?_
  rintro _ w ⟨b7, rfl, S⟩
  refine p_does (d_call Try.func19 nm19 rfl rfl (Ret.mono (R' := fun v w' => v = .agg (bv (txsum x)).toArray ∧ Below _ _ w') (join_calls _ _ _ _ [[] ++ tbodyB x] (Parts.one (S.rdRw 0 rfl rfl) (S.rdRw 1 rfl rfl)) (by simp [joinB, len4]; omega) (by simp)) (fun v w' ⟨hv, hB⟩ => ⟨by rw [hv]; unfold txsum; rfl, hB⟩))) rfl ?_
  rintro _ w ⟨rfl, hB⟩
  have S := S.below hB
  refine p_does (d_storeW S 4 rfl rfl (by first | exact bv_one _ | exact sv_one _ | exact iv_one _ | with_reducible assumption | (refine One.mem ?_; repeat (first | exact One.bv _ | exact One.sv _ | exact One.iv _ | exact One.nil | exact One.cat0 | refine One.cat1 ?_ ?_ | refine One.cons rfl ?_ | refine One.append ?_ ?_))) sz29 (by first | with_reducible assumption | (rw [bv_length]; with_reducible assumption) | (rw [List.size_toArray, bv_length]; with_reducible assumption) | (simp [cat, txC, Value.cells, hX.root, length_zsum, length_txsum]; done) | (simp [cat, txC, Value.cells, hX.root, length_zsum, length_txsum]; omega) | rfl) rfl rfl (by first | with_reducible assumption | (rw [bv_length]; with_reducible assumption) | (rw [List.size_toArray, bv_length]; with_reducible assumption) | (simp [cat, txC, Value.cells, hX.root, length_zsum, length_txsum]; done) | (simp [cat, txC, Value.cells, hX.root, length_zsum, length_txsum]; omega) | rfl)) rfl ?_
  intro _ w S
  refine p_nil (x_then (s_ret ?_))
  exact postC Try.results57 S 4 rfl rfl rfl ag29 sz29 (by first | with_reducible assumption | (rw [bv_length]; with_reducible assumption) | (rw [List.size_toArray, bv_length]; with_reducible assumption) | (simp [cat, txC, Value.cells, hX.root, length_zsum, length_txsum]; done) | (simp [cat, txC, Value.cells, hX.root, length_zsum, length_txsum]; omega) | rfl) (⟨rfl, S.to_below⟩)
end Go.Proofs.Ytdhfiamgmokfbaa

/- Lists of sums under one sum, as functions on lists. It proves no statement by itself. -/
set_option linter.unusedSimpArgs false
set_option linter.unusedVariables false
namespace Go.Proofs.Ytdhfiamgmokfbaa
open Go Go.RowKit E
def mleaf (s : List Nat) : List Nat := join 1 [s]
def mpair (a b : List Nat) : List Nat := join 2 [a, b]
theorem length_mleaf (s : List Nat) : (mleaf s).length = 32 := length_join _ _
theorem length_mpair (a b : List Nat) : (mpair a b).length = 32 := length_join _ _
def upL : List (List Nat) → List (List Nat)
  | a :: b :: l => mpair a b :: upL l
  | [a] => [a]
  | [] => []
theorem upL_length : ∀ l : List (List Nat), (upL l).length = (l.length + 1) / 2
  | a :: b :: l => by rw [upL, List.length_cons, upL_length l]; simp only [List.length_cons]; omega
  | [a] => by simp [upL]
  | [] => by simp [upL]
theorem upL_all : ∀ {l : List (List Nat)}, All32 l → All32 (upL l)
  | a :: b :: l, h => by
    intro x hx
    rw [upL] at hx
    rcases List.mem_cons.1 hx with rfl | hx
    · exact length_mpair _ _
    · exact upL_all (l := l) (fun y hy => h y (by simp [hy])) x hx
  | [a], h => h
  | [], h => h
theorem upL_append : ∀ (a b : List (List Nat)), a.length % 2 = 0 → upL (a ++ b) = upL a ++ upL b
  | [], b, _ => rfl
  | [x], b, h => by simp at h
  | x :: y :: a, b, h => by
    show mpair x y :: upL (a ++ b) = mpair x y :: (upL a ++ upL b)
    rw [upL_append a b (by simp only [List.length_cons] at h; omega)]
def rootI (l : List (List Nat)) : List Nat := if h : l.length ≤ 1 then l.headD [] else rootI (upL l)
termination_by l.length
decreasing_by rw [upL_length]; omega
theorem rootI_one (x : List Nat) : rootI [x] = x := by rw [rootI, dif_pos (by simp)]; rfl
theorem rootI_up {l : List (List Nat)} (h : ¬ l.length ≤ 1) : rootI l = rootI (upL l) := by rw [rootI, dif_neg h]
/-- the greatest power of two below -/
def hb (n k : Nat) : Nat := if h : 0 < k ∧ 2 * k < n then hb n (2 * k) else k
termination_by n - k
decreasing_by omega
def halfI (n : Nat) : Nat := hb n 1
theorem hb_pow (n : Nat) : ∀ (k j : Nat), k = 2 ^ j → k < n → ∃ i, j ≤ i ∧ hb n k = 2 ^ i ∧ 2 ^ i < n ∧ n ≤ 2 ^ (i + 1) := by
  have key : ∀ m k j : Nat, n - k = m → k = 2 ^ j → k < n → ∃ i, j ≤ i ∧ hb n k = 2 ^ i ∧ 2 ^ i < n ∧ n ≤ 2 ^ (i + 1) := by
    intro m
    induction m using Nat.strongRecOn with
    | _ m ih =>
      intro k j hm hk hn
      have hpos : 0 < k := by rw [hk]; exact Nat.pow_pos (by decide)
      by_cases h : 2 * k < n
      · rw [hb, dif_pos ⟨hpos, h⟩]
        obtain ⟨i, h1, h2, h3, h4⟩ := ih (n - 2 * k) (by omega) (2 * k) (j + 1) rfl (by rw [Nat.pow_succ, hk, Nat.mul_comm]) h
        exact ⟨i, by omega, h2, h3, h4⟩
      · rw [hb, dif_neg (fun h' => h h'.2)]
        exact ⟨j, Nat.le_refl _, hk, by omega, by rw [Nat.pow_succ]; omega⟩
  exact fun k j => key _ k j rfl
theorem half_pow {n : Nat} (h : 2 ≤ n) : ∃ i, halfI n = 2 ^ i ∧ 2 ^ i < n ∧ n ≤ 2 ^ (i + 1) := by
  obtain ⟨i, _, h2, h3, h4⟩ := hb_pow n 1 0 rfl (by omega)
  exact ⟨i, h2, h3, h4⟩
theorem half_lt {n : Nat} (h : 2 ≤ n) : 0 < halfI n ∧ halfI n < n := by
  obtain ⟨i, h1, h2, _⟩ := half_pow h
  have : 0 < 2 ^ i := Nat.pow_pos (by decide)
  omega
theorem pow_unique {n i j : Nat} (h1 : 2 ^ i < n) (h2 : n ≤ 2 ^ (i + 1)) (h3 : 2 ^ j < n) (h4 : n ≤ 2 ^ (j + 1)) : i = j := by
  rcases Nat.lt_trichotomy i j with h | h | h
  · have : 2 ^ (i + 1) ≤ 2 ^ j := Nat.pow_le_pow_right (by decide) h
    omega
  · exact h
  · have : 2 ^ (j + 1) ≤ 2 ^ i := Nat.pow_le_pow_right (by decide) h
    omega
theorem half_half {n : Nat} (h : 3 ≤ n) : halfI n % 2 = 0 ∧ halfI ((n + 1) / 2) = halfI n / 2 ∧ 2 ≤ halfI n := by
  obtain ⟨i, h1, h2, h3⟩ := half_pow (n := n) (by omega)
  obtain ⟨j, k1, k2, k3⟩ := half_pow (n := (n + 1) / 2) (by omega)
  have hi : i ≠ 0 := fun e => by subst e; simp at h3; omega
  obtain ⟨i', rfl⟩ : ∃ i', i = i' + 1 := ⟨i - 1, by omega⟩
  have e1 : 2 ^ (i' + 1) = 2 * 2 ^ i' := by rw [Nat.pow_succ, Nat.mul_comm]
  have e2 : 2 ^ (i' + 1 + 1) = 2 * 2 ^ (i' + 1) := by rw [Nat.pow_succ _ (i' + 1), Nat.mul_comm]
  have hp : 0 < 2 ^ i' := Nat.pow_pos (by decide)
  have : j = i' := pow_unique k2 k3 (by omega) (by omega)
  subst this
  omega
/-- the root as the document has it, of leaves' sums -/
def rec_ (l : List (List Nat)) : List Nat := if h : l.length ≤ 1 then l.headD [] else mpair (rec_ (l.take (halfI l.length))) (rec_ (l.drop (halfI l.length)))
termination_by l.length
decreasing_by
  · have := half_lt (n := l.length) (by omega); rw [List.length_take]; omega
  · have := half_lt (n := l.length) (by omega); rw [List.length_drop]; omega
theorem rec_one {l : List (List Nat)} (h : l.length ≤ 1) : rec_ l = l.headD [] := by rw [rec_, dif_pos h]
theorem rec_two {l : List (List Nat)} (h : ¬ l.length ≤ 1) : rec_ l = mpair (rec_ (l.take (halfI l.length))) (rec_ (l.drop (halfI l.length))) := by rw [rec_, dif_neg h]
theorem upL_one {l : List (List Nat)} (h : l.length ≤ 1) : upL l = l := by
  match l, h with
  | [], _ => rfl
  | [a], _ => rfl
theorem up_split {l : List (List Nat)} (h : 3 ≤ l.length) : upL l = upL (l.take (halfI l.length)) ++ upL (l.drop (halfI l.length)) ∧ (upL (l.take (halfI l.length))).length = halfI (upL l).length := by
  obtain ⟨h1, h2, h3⟩ := half_half h
  have h4 := half_lt (n := l.length) (by omega)
  have hl : (l.take (halfI l.length)).length = halfI l.length := by rw [List.length_take]; omega
  refine ⟨?_, ?_⟩
  · conv => lhs; rw [← List.take_append_drop (halfI l.length) l]
    exact upL_append _ _ (by rw [hl]; exact h1)
  · rw [upL_length, upL_length, hl, h2]; omega
theorem rec_up : ∀ (l : List (List Nat)), rec_ (upL l) = rec_ l := by
  have key : ∀ m, ∀ l : List (List Nat), l.length = m → rec_ (upL l) = rec_ l := by
    intro m
    induction m using Nat.strongRecOn with
    | _ m ih =>
      intro l hm
      by_cases h1 : l.length ≤ 1
      · rw [upL_one h1]
      · by_cases h2 : l.length = 2
        · match l, h2 with
          | [a, b], _ =>
            rw [rec_two (l := [a, b]) (by simp)]
            have e : halfI [a, b].length = 1 := by
              show halfI 2 = 1
              obtain ⟨i, k1, k2, k3⟩ := half_pow (n := 2) (by omega)
              have := half_lt (n := 2) (by omega)
              omega
            rw [e]
            show rec_ [mpair a b] = _
            rw [rec_one (by simp), rec_one (by simp), rec_one (by simp)]
            rfl
        · obtain ⟨e1, e2⟩ := up_split (l := l) (by omega)
          have hlt := half_lt (n := l.length) (by omega)
          have hu : ¬ (upL l).length ≤ 1 := by rw [upL_length]; omega
          rw [rec_two hu, rec_two h1, ← e2]
          conv => lhs; rw [e1]
          rw [List.take_left, List.drop_left, ih _ (by rw [List.length_take]; omega) (l.take (halfI l.length)) rfl, ih _ (by rw [List.length_drop]; omega) (l.drop (halfI l.length)) rfl]
  exact fun l => key _ l rfl
theorem rootI_rec : ∀ (l : List (List Nat)), rootI l = rec_ l := by
  have key : ∀ m, ∀ l : List (List Nat), l.length = m → rootI l = rec_ l := by
    intro m
    induction m using Nat.strongRecOn with
    | _ m ih =>
      intro l hm
      by_cases h1 : l.length ≤ 1
      · rw [rec_one h1, rootI, dif_pos h1]
      · rw [rootI_up h1, ih _ (by rw [upL_length]; omega) (upL l) rfl, rec_up]
  exact fun l => key _ l rfl
/-- what stands beside the way up -/
def sidx (a : Nat) : Nat := if a % 2 = 0 then a + 1 else a - 1
theorem sidx_even {a : Nat} (h : a % 2 = 0) : sidx a = a + 1 := if_pos h
theorem sidx_odd {a : Nat} (h : ¬ a % 2 = 0) : sidx a = a - 1 := if_neg h
def sib (l : List (List Nat)) (a : Nat) : List (List Nat) := if sidx a < l.length then [l.getD (sidx a) []] else []
def pathI (l : List (List Nat)) (a : Nat) : List (List Nat) := if h : l.length ≤ 1 then [] else sib l a ++ pathI (upL l) (a / 2)
termination_by l.length
decreasing_by rw [upL_length]; omega
theorem pathI_one {l : List (List Nat)} (h : l.length ≤ 1) (a : Nat) : pathI l a = [] := by rw [pathI, dif_pos h]
theorem pathI_up {l : List (List Nat)} (h : ¬ l.length ≤ 1) (a : Nat) : pathI l a = sib l a ++ pathI (upL l) (a / 2) := by rw [pathI, dif_neg h]
def recP (l : List (List Nat)) (a : Nat) : List (List Nat) :=
  if h : l.length ≤ 1 then [] else if a < halfI l.length then recP (l.take (halfI l.length)) a ++ [rec_ (l.drop (halfI l.length))] else recP (l.drop (halfI l.length)) (a - halfI l.length) ++ [rec_ (l.take (halfI l.length))]
termination_by l.length
decreasing_by
  · have := half_lt (n := l.length) (by omega); rw [List.length_take]; omega
  · have := half_lt (n := l.length) (by omega); rw [List.length_drop]; omega
theorem recP_one {l : List (List Nat)} (h : l.length ≤ 1) (a : Nat) : recP l a = [] := by rw [recP, dif_pos h]
theorem recP_two {l : List (List Nat)} (h : ¬ l.length ≤ 1) (a : Nat) : recP l a = if a < halfI l.length then recP (l.take (halfI l.length)) a ++ [rec_ (l.drop (halfI l.length))] else recP (l.drop (halfI l.length)) (a - halfI l.length) ++ [rec_ (l.take (halfI l.length))] := by rw [recP, dif_neg h]
theorem half2 : halfI 2 = 1 := by
  have := half_lt (n := 2) (by omega)
  omega
theorem recP_up : ∀ (m : Nat) (l : List (List Nat)) (a : Nat), l.length = m → ¬ l.length ≤ 1 → a < l.length → recP l a = sib l a ++ recP (upL l) (a / 2) := by
  intro m
  induction m using Nat.strongRecOn with
  | _ m ih =>
    intro l a hm h1 ha
    by_cases h2 : l.length = 2
    · match l, h2 with
      | [x, y], _ =>
        rw [recP_two (l := [x, y]) (by simp), recP_one (l := upL [x, y]) (by simp [upL])]
        show (if a < halfI 2 then recP ([x, y].take (halfI 2)) a ++ [rec_ ([x, y].drop (halfI 2))] else recP ([x, y].drop (halfI 2)) (a - halfI 2) ++ [rec_ ([x, y].take (halfI 2))]) = _
        rw [half2]
        have ha' : a < 2 := ha
        rcases (by omega : a = 0 ∨ a = 1) with rfl | rfl
        · rw [if_pos (by decide), recP_one (by simp), rec_one (by simp)]
          simp [sib, sidx]
        · rw [if_neg (by decide), recP_one (by simp), rec_one (by simp)]
          simp [sib, sidx]
    · obtain ⟨e1, e2⟩ := up_split (l := l) (by omega)
      obtain ⟨h4, h5, h6⟩ := half_half (n := l.length) (by omega)
      have hlt := half_lt (n := l.length) (by omega)
      have hlu := upL_length l
      have hu : ¬ (upL l).length ≤ 1 := by rw [hlu]; omega
      have hhu : halfI (upL l).length = halfI l.length / 2 := by rw [hlu]; exact h5
      have htl : (l.take (halfI l.length)).length = halfI l.length := by rw [List.length_take]; omega
      have hdl : (l.drop (halfI l.length)).length = l.length - halfI l.length := List.length_drop
      have et : (upL l).take (halfI (upL l).length) = upL (l.take (halfI l.length)) := by
        rw [← e2]; conv => lhs; rw [e1]
        rw [List.take_left]
      have ed : (upL l).drop (halfI (upL l).length) = upL (l.drop (halfI l.length)) := by
        rw [← e2]; conv => lhs; rw [e1]
        rw [List.drop_left]
      rw [recP_two h1, recP_two hu, et, ed, rec_up, rec_up]
      by_cases hc : a < halfI l.length
      · have q1 : a / 2 < halfI (upL l).length := by rw [hhu]; omega
        have q2 : (l.take (halfI l.length)).length < m := by rw [htl]; omega
        have q3 : ¬ (l.take (halfI l.length)).length ≤ 1 := by rw [htl]; omega
        rw [if_pos hc, if_pos q1, ih _ q2 (l.take (halfI l.length)) a rfl q3 (by rw [htl]; exact hc), List.append_assoc]
        congr 1
        have hs : sidx a < halfI l.length := by
          by_cases hz : a % 2 = 0
          · rw [sidx_even hz]; omega
          · rw [sidx_odd hz]; omega
        unfold sib
        rw [if_pos (by rw [htl]; exact hs), if_pos (by omega), List.getD_eq_getElem?_getD, List.getD_eq_getElem?_getD, List.getElem?_take, if_pos hs]
      · have q1 : ¬ a / 2 < halfI (upL l).length := by rw [hhu]; omega
        rw [if_neg hc, if_neg q1]
        have hax : (a / 2 - halfI (upL l).length) = (a - halfI l.length) / 2 := by rw [hhu]; omega
        rw [hax, ← List.append_assoc]
        have hs : sib (l.drop (halfI l.length)) (a - halfI l.length) = sib l a := by
          unfold sib
          rw [hdl]
          by_cases hz : a % 2 = 0
          · rw [sidx_even hz, sidx_even (show (a - halfI l.length) % 2 = 0 by omega)]
            by_cases hb : a + 1 < l.length
            · rw [if_pos hb, if_pos (by omega), List.getD_eq_getElem?_getD, List.getD_eq_getElem?_getD, List.getElem?_drop, show halfI l.length + (a - halfI l.length + 1) = a + 1 by omega]
            · rw [if_neg hb, if_neg (by omega)]
          · rw [sidx_odd hz, sidx_odd (show ¬ (a - halfI l.length) % 2 = 0 by omega), if_pos (by omega), if_pos (by omega), List.getD_eq_getElem?_getD, List.getD_eq_getElem?_getD, List.getElem?_drop, show halfI l.length + (a - halfI l.length - 1) = a - 1 by omega]
        by_cases hd : (l.drop (halfI l.length)).length ≤ 1
        · have ha2 : a = halfI l.length ∧ l.length = halfI l.length + 1 := by omega
          have h0 : sib l a = [] := by
            unfold sib
            rw [sidx_even (by omega), if_neg (by omega)]
          rw [h0, upL_one hd, show (a - halfI l.length) / 2 = a - halfI l.length by omega, List.nil_append]
        · have q2 : (l.drop (halfI l.length)).length < m := by rw [hdl]; omega
          rw [ih _ q2 (l.drop (halfI l.length)) (a - halfI l.length) rfl hd (by omega), hs]
theorem pathI_rec : ∀ (m : Nat) (l : List (List Nat)) (a : Nat), l.length = m → a < l.length → pathI l a = recP l a := by
  intro m
  induction m using Nat.strongRecOn with
  | _ m ih =>
    intro l a hm ha
    by_cases h1 : l.length ≤ 1
    · rw [pathI_one h1, recP_one h1]
    · have hl := upL_length l
      rw [pathI_up h1, recP_up m l a hm h1 ha, ih _ (by omega) (upL l) (a / 2) rfl (by omega)]
end Go.Proofs.Ytdhfiamgmokfbaa

/- Lamport's keys: secrets, what is shown, digests, bits. It proves no statement by itself. -/
set_option linter.unusedSimpArgs false
set_option linter.unusedVariables false
set_option maxRecDepth 100000
set_option maxHeartbeats 1000000
namespace Go.Proofs.Ytdhfiamgmokfbaa
open Go Go.RowKit E
def lsec (s : List Nat) (i b : Int) : List Nat := join 11 [s, [(i % 256).toNat, (b % 256).toNat]]
def lshown (s : List Nat) : List Nat := join 12 [s]
def ldig (l : List Nat) : List Nat := join 14 [l]
def lbit (s : List Nat) (i : Nat) : Nat := (s.getD (i / 8) 0 >>> (7 - i % 8)) % 2
theorem length_lsec (s : List Nat) (i b : Int) : (lsec s i b).length = 32 := length_join _ _
theorem length_lshown (s : List Nat) : (lshown s).length = 32 := length_join _ _
theorem length_ldig (s : List Nat) : (ldig s).length = 32 := length_join _ _
theorem lbit_lt (s : List Nat) (i : Nat) : lbit s i < 2 := Nat.mod_lt _ (by decide)
theorem lsec_calls (w0 : World) (s : List Nat) (i b : Int) (hs : s.length = 32) :
    Ret Try.prog 35 [.agg (bv s).toArray, .int .i64 i, .int .i64 b] w0 fun v w' => v = .agg (bv (lsec s i (b % 2))).toArray ∧ Below w0.heap.size w0 w' := by
  refine enter Try.func35 rfl Try.ntmps35 (Nat.le_of_ble_eq_true rfl) ?_
  have S := St.init w0
  refine s_seq (s_plain ?_)
  refine p_does (d_boxA S rfl) rfl ?_
  rintro _ w ⟨b1, rfl, S⟩
  refine p_does (d_allocA S zv29) rfl ?_
  rintro _ w ⟨b2, rfl, S⟩
  refine p_nil (x_then (s_seq (s_plain ?_)))
  refine p_val (e_sl_arr rfl Try.underlying29 sz5) rfl ?_
  refine p_val (e_move (v := .int _ _) rfl) rfl ?_
  refine p_val (e_conv8i rfl Try.underlying3 (by simp) Try.underlying5) rfl ?_
  refine p_val (e_move (v := .int _ _) rfl) rfl ?_
  refine p_val (e_and1 rfl rfl) rfl ?_
  refine p_val (e_conv8i rfl Try.underlying3 (by simp) Try.underlying5) rfl ?_
  refine p_does (d_litB S Try.underlying33 sz5 zv5 rfl (l := [_, _]) rfl rfl (by decide)) rfl ?_
  rintro _ w ⟨b3, rfl, S⟩
  refine p_does (d_lit1 S Try.underlying90 sz33 zv33 rfl (vs := [.slice _ _ _, .slice _ _ _]) rfl rfl rfl (by decide)) rfl ?_
  rintro _ w ⟨b4, rfl, S⟩
  refine p_does (d_call Try.func19 nm19 rfl rfl (join_calls _ 11 _ _ [s, [(i % 256).toNat, (b % 2 % 256).toNat]] (Parts.two (S.rdRw 0 rfl rfl) (S.rdBytes 3 rfl rfl hs) (S.rdRw 1 rfl rfl)) (by simp [joinB, len4, hs]) (by simp))) rfl ?_
  rintro _ w ⟨rfl, hB⟩
  have S := S.below hB
  refine p_does (d_storeW S 2 rfl rfl (bv_one _) sz29 (by simp [length_join]) rfl rfl (by rfl)) rfl ?_
  intro _ w S
  refine p_nil (x_then (s_ret ?_))
  exact postC Try.results35 S 2 rfl rfl rfl ag29 sz29 (by simp [length_join]) ⟨rfl, S.to_below⟩
theorem lshown_calls (w0 : World) (s : List Nat) (hs : s.length = 32) :
    Ret Try.prog 36 [.agg (bv s).toArray] w0 fun v w' => v = .agg (bv (lshown s)).toArray ∧ Below w0.heap.size w0 w' := by
  refine enter Try.func36 rfl Try.ntmps36 (Nat.le_of_ble_eq_true rfl) ?_
  have S := St.init w0
  refine s_seq (s_plain ?_)
  refine p_does (d_boxA S rfl) rfl ?_
  rintro _ w ⟨b1, rfl, S⟩
  refine p_does (d_allocA S zv29) rfl ?_
  rintro _ w ⟨b2, rfl, S⟩
  refine p_nil (x_then (s_seq (s_plain ?_)))
  refine p_val (e_sl_arr rfl Try.underlying29 sz5) rfl ?_
  refine p_does (d_lit1 S Try.underlying90 sz33 zv33 rfl (vs := [.slice _ _ _]) rfl rfl rfl (by decide)) rfl ?_
  rintro _ w ⟨b3, rfl, S⟩
  refine p_does (d_call Try.func19 nm19 rfl rfl (join_calls _ 12 _ _ [s] (Parts.one (S.rdRw 0 rfl rfl) (S.rdBytes 2 rfl rfl hs)) (by simp [joinB, len4, hs]) (by simp))) rfl ?_
  rintro _ w ⟨rfl, hB⟩
  have S := S.below hB
  refine p_does (d_storeW S 1 rfl rfl (bv_one _) sz29 (by simp [length_join]) rfl rfl (by rfl)) rfl ?_
  intro _ w S
  refine p_nil (x_then (s_ret ?_))
  exact postC Try.results36 S 1 rfl rfl rfl ag29 sz29 (by simp [length_join]) ⟨rfl, S.to_below⟩
theorem ldig_calls (w0 : World) (A : Option Addr) (n c0 : Nat) (l : List Nat) (R : Rd w0 1 A n (bv l)) (hn : n ≤ 1099511620000) :
    Ret Try.prog 33 [.slice A n c0] w0 fun v w' => v = .agg (bv (ldig l)).toArray ∧ Below w0.heap.size w0 w' := by
  have hl : l.length = n := by simpa using R.1
  refine enter Try.func33 rfl Try.ntmps33 (Nat.le_of_ble_eq_true rfl) ?_
  have S := St.init w0
  refine s_seq (s_plain ?_)
  refine p_does (d_allocA S zv29) rfl ?_
  rintro _ w ⟨b1, rfl, S⟩
  refine p_nil (x_then (s_seq (s_plain ?_)))
  refine p_val (e_move (v := .slice _ _ _) rfl) rfl ?_
  refine p_does (d_lit1 S Try.underlying90 sz33 zv33 rfl (vs := [.slice _ _ _]) rfl rfl rfl (by decide)) rfl ?_
  rintro _ w ⟨b2, rfl, S⟩
  refine p_does (d_call Try.func19 nm19 rfl rfl (join_calls _ 14 _ _ [l] (Parts.one (S.rdRw 0 rfl rfl) (S.rdOld R rfl)) (by simp [joinB, len4]; omega) (by simp))) rfl ?_
  rintro _ w ⟨rfl, hB⟩
  have S := S.below hB
  refine p_does (d_storeW S 1 rfl rfl (bv_one _) sz29 (by simp [length_join]) rfl rfl (by rfl)) rfl ?_
  intro _ w S
  refine p_nil (x_then (s_ret ?_))
  exact postC Try.results33 S 1 rfl rfl rfl ag29 sz29 (by simp [length_join]) ⟨rfl, S.to_below⟩
theorem lbit_calls (w0 : World) (s : List Nat) (i : Nat) (hs : s.length = 32) (hi : i < 256) :
    Ret Try.prog 84 [.agg (bv s).toArray, .int .i64 (i : Int)] w0 fun v w' => v = .int .i64 ((lbit s i : Nat) : Int) ∧ Below w0.heap.size w0 w' := by
  refine enter Try.func84 rfl Try.ntmps84 (Nat.le_of_ble_eq_true rfl) ?_
  have S := St.init w0
  refine s_seq (s_plain ?_)
  refine p_does (d_boxA S rfl) rfl ?_
  rintro _ w ⟨b1, rfl, S⟩
  refine p_val (e_assign (v := .int _ _) rfl) rfl ?_
  refine p_nil (x_then (s_seq (s_plain ?_)))
  refine p_val (e_move (v := .int _ _) rfl) rfl ?_
  refine p_val (e_quo64 rfl rfl (by omega)) rfl ?_
  refine p_val (e_ix_arr rfl rfl Try.underlying29 sz5 (by omega)) rfl ?_
  refine p_val (e_load rfl ag5 ((S.cell 0 rfl rfl _).trans (by rw [show (((i : Int) / 8).toNat * 1) = i / 8 by omega]; exact bv_getA (by omega)))) rfl ?_
  refine p_val (e_move (v := .int _ _) rfl) rfl ?_
  refine p_val (e_rem64 rfl rfl (by omega)) rfl ?_
  refine p_val (e_sub64 rfl rfl (by omega)) rfl ?_
  refine p_val (e_shr64 (7 - i % 8) rfl (show Value.int .i64 (7 - (i : Int) % 8) = .int .i64 ((7 - i % 8 : Nat) : Int) from congrArg _ (by omega)) (by show 7 - i % 8 ≤ 8; omega)) rfl ?_
  refine p_val (e_conv rfl Try.underlying5 (by simp) Try.underlying3) rfl ?_
  refine p_val (e_and1 rfl rfl) rfl ?_
  refine p_val (e_assign (v := .int _ _) rfl) rfl ?_
  refine p_nil (x_then (s_ret ?_))
  exact post1 (v := .int _ _) Try.results84 rfl ⟨congrArg (Value.int .i64) (by rw [IntKind.wrap_i64]; unfold lbit; omega), S.to_below⟩
theorem l4sec_calls (w0 : World) (s : List Nat) (i b : Int) (hs : s.length = 32) :
    Ret Try.prog 27 [.agg (bv s).toArray, .int .i64 i, .int .i64 b] w0 fun v w' => v = .agg (bv (lsec s i b)).toArray ∧ Below w0.heap.size w0 w' := by
  refine enter Try.func27 rfl Try.ntmps27 (Nat.le_of_ble_eq_true rfl) ?_
  have S := St.init w0
  refine s_seq (s_plain ?_)
  refine p_does (d_boxA S rfl) rfl ?_
  rintro _ w ⟨b1, rfl, S⟩
  refine p_does (d_allocA S zv29) rfl ?_
  rintro _ w ⟨b2, rfl, S⟩
  refine p_nil (x_then (s_seq (s_plain ?_)))
  refine p_val (e_sl_arr rfl Try.underlying29 sz5) rfl ?_
  refine p_val (e_move (v := .int _ _) rfl) rfl ?_
  refine p_val (e_conv8i rfl Try.underlying3 (by simp) Try.underlying5) rfl ?_
  refine p_val (e_move (v := .int _ _) rfl) rfl ?_
  refine p_val (e_conv8i rfl Try.underlying3 (by simp) Try.underlying5) rfl ?_
  refine p_does (d_litB S Try.underlying33 sz5 zv5 rfl (l := [_, _]) rfl rfl (by decide)) rfl ?_
  rintro _ w ⟨b3, rfl, S⟩
  refine p_does (d_lit1 S Try.underlying90 sz33 zv33 rfl (vs := [.slice _ _ _, .slice _ _ _]) rfl rfl rfl (by decide)) rfl ?_
  rintro _ w ⟨b4, rfl, S⟩
  refine p_does (d_call Try.func19 nm19 rfl rfl (join_calls _ 11 _ _ [s, [(i % 256).toNat, (b % 256).toNat]] (Parts.two (S.rdRw 0 rfl rfl) (S.rdBytes 3 rfl rfl hs) (S.rdRw 1 rfl rfl)) (by simp [joinB, len4, hs]) (by simp))) rfl ?_
  rintro _ w ⟨rfl, hB⟩
  have S := S.below hB
  refine p_does (d_storeW S 2 rfl rfl (bv_one _) sz29 (by simp [length_join]) rfl rfl (by rfl)) rfl ?_
  intro _ w S
  refine p_nil (x_then (s_ret ?_))
  exact postC Try.results27 S 2 rfl rfl rfl ag29 sz29 (by simp [length_join]) ⟨rfl, S.to_below⟩
theorem l4shown_calls (w0 : World) (s : List Nat) (hs : s.length = 32) :
    Ret Try.prog 28 [.agg (bv s).toArray] w0 fun v w' => v = .agg (bv (lshown s)).toArray ∧ Below w0.heap.size w0 w' := by
  refine enter Try.func28 rfl Try.ntmps28 (Nat.le_of_ble_eq_true rfl) ?_
  have S := St.init w0
  refine s_seq (s_plain ?_)
  refine p_does (d_boxA S rfl) rfl ?_
  rintro _ w ⟨b1, rfl, S⟩
  refine p_does (d_allocA S zv29) rfl ?_
  rintro _ w ⟨b2, rfl, S⟩
  refine p_nil (x_then (s_seq (s_plain ?_)))
  refine p_val (e_sl_arr rfl Try.underlying29 sz5) rfl ?_
  refine p_does (d_lit1 S Try.underlying90 sz33 zv33 rfl (vs := [.slice _ _ _]) rfl rfl rfl (by decide)) rfl ?_
  rintro _ w ⟨b3, rfl, S⟩
  refine p_does (d_call Try.func19 nm19 rfl rfl (join_calls _ 12 _ _ [s] (Parts.one (S.rdRw 0 rfl rfl) (S.rdBytes 2 rfl rfl hs)) (by simp [joinB, len4, hs]) (by simp))) rfl ?_
  rintro _ w ⟨rfl, hB⟩
  have S := S.below hB
  refine p_does (d_storeW S 1 rfl rfl (bv_one _) sz29 (by simp [length_join]) rfl rfl (by rfl)) rfl ?_
  intro _ w S
  refine p_nil (x_then (s_ret ?_))
  exact postC Try.results28 S 1 rfl rfl rfl ag29 sz29 (by simp [length_join]) ⟨rfl, S.to_below⟩
end Go.Proofs.Ytdhfiamgmokfbaa

/- Law 4's own helpers. It proves no statement by itself. -/
set_option linter.unusedSimpArgs false
set_option linter.unusedVariables false
set_option maxRecDepth 100000
set_option maxHeartbeats 1000000
namespace Go.Proofs.Ytdhfiamgmokfbaa
open Go Go.RowKit E
theorem outB_lt (h : List Nat) : ∀ g, ∀ x ∈ outB h g, x < 256
  | 0, x, hx => by
    have := (List.mem_replicate.1 hx).2
    omega
  | g + 1, x, hx => by
    unfold outB at hx
    rcases List.mem_or_eq_of_mem_set hx with hx | rfl
    · rcases List.mem_or_eq_of_mem_set hx with hx | rfl
      · rcases List.mem_or_eq_of_mem_set hx with hx | rfl
        · rcases List.mem_or_eq_of_mem_set hx with hx | rfl
          · exact outB_lt h g x hx
          · exact Nat.mod_lt _ (by decide)
        · exact Nat.mod_lt _ (by decide)
      · exact Nat.mod_lt _ (by decide)
    · exact Nat.mod_lt _ (by decide)
theorem join_lt (tag : Nat) (ls : List (List Nat)) : ∀ x ∈ join tag ls, x < 256 := by
  unfold join sumOf
  exact outB_lt _ _
theorem getD_lt {l : List Nat} (h : ∀ x ∈ l, x < 256) (i : Nat) : l.getD i 0 < 256 := by
  rw [List.getD_eq_getElem?_getD]
  cases hi : l[i]? with
  | none => decide
  | some x => exact h x (List.mem_of_getElem? hi)
theorem cut_calls (w0 : World) (A : Option Addr) (n c : Nat) (hc : n ≤ c) :
    Ret Try.prog 25 [.slice A n c] w0 fun v w' => v = .slice A (min n 200) c ∧ Below w0.heap.size w0 w' := by
  refine enter Try.func25 rfl Try.ntmps25 (Nat.le_of_ble_eq_true rfl) ?_
  have S := St.init w0
  refine s_seq (s_plain ?_)
  refine p_val (e_assign (v := .slice _ _ _) rfl) rfl ?_
  refine p_nil (x_then (s_seq (s_seq (s_plain ?_))))
  refine p_val (e_move (v := .slice _ _ _) rfl) rfl ?_
  refine p_val (e_len rfl Try.underlying33) rfl ?_
  refine p_val (e_gtr rfl rfl) rfl ?_
  refine p_nil (x_then ?_)
  refine s_cond rfl (fun hc1 => ?_) (fun hc1 => ?_)
  · refine s_seq (s_plain ?_)
    refine p_val (e_move (v := .slice _ _ _) rfl) rfl ?_
    refine p_val (e_sl_h (200) rfl rfl (by omega) (by omega) Try.underlying33 sz5) rfl ?_
    refine p_val (e_assign (v := .slice _ _ _) rfl) rfl ?_
    refine p_nil (x_then (s_ret (x_then_ret ?_)))
    exact post1 (v := .slice _ _ _) Try.results25 rfl ⟨by rw [Nat.min_eq_right (by omega)], S.to_below⟩
  · refine s_skip (x_then (s_seq (s_plain ?_)))
    refine p_val (e_move (v := .slice _ _ _) rfl) rfl ?_
    refine p_val (e_assign (v := .slice _ _ _) rfl) rfl ?_
    refine p_nil (x_then (s_ret ?_))
    exact post1 (v := .slice _ _ _) Try.results25 rfl ⟨by rw [Nat.min_eq_left (by omega)], S.to_below⟩
theorem l4bit_calls (w0 : World) (A : Option Addr) (n c : Nat) (l : List Nat) (i : Nat) (R : Rd w0 1 A n (bv l)) (hn : n ≤ 1099511620000) (hi : i < 256) :
    Ret Try.prog 26 [.slice A n c, .int .i64 (i : Int)] w0 fun v w' => v = .int .i64 ((lbit (ldig l) i : Nat) : Int) ∧ Below w0.heap.size w0 w' := by
  have hl : l.length = n := by simpa using R.1
  have hd : (ldig l).length = 32 := length_ldig l
  have hd' : (join 14 [l]).length = 32 := length_ldig l
  have hlt : (join 14 [l]).getD (i / 8) 0 < 256 := getD_lt (join_lt _ _) _
  refine enter Try.func26 rfl Try.ntmps26 (Nat.le_of_ble_eq_true rfl) ?_
  have S := St.init w0
  refine s_seq (s_plain ?_)
  refine p_val (e_assign (v := .int _ _) rfl) rfl ?_
  refine p_nil (x_then (s_seq (s_plain ?_)))
  refine p_val (e_move (v := .slice _ _ _) rfl) rfl ?_
  refine p_does (d_lit1 S Try.underlying90 sz33 zv33 rfl (vs := [.slice _ _ _]) rfl rfl rfl (by decide)) rfl ?_
  rintro _ w ⟨b1, rfl, S⟩
  refine p_does (d_call Try.func19 nm19 rfl rfl (join_calls _ 14 _ _ [l] (Parts.one (S.rdRw 0 rfl rfl) (S.rdOld R rfl)) (by simp [joinB, len4]; omega) (by simp))) rfl ?_
  rintro _ w ⟨rfl, hB⟩
  have S := S.below hB
  refine p_does (d_allocA S zv29) rfl ?_
  rintro _ w ⟨b2, rfl, S⟩
  refine p_does (d_storeW S 0 rfl rfl (bv_one _) sz29 (by simp [length_join]) rfl rfl (by rfl)) rfl ?_
  intro _ w S
  refine p_nil (x_then (s_seq (s_plain ?_)))
  refine p_val (e_move (v := .int _ _) rfl) rfl ?_
  refine p_val (e_quo64 rfl rfl (by omega)) rfl ?_
  refine p_val (e_ix_arr rfl rfl Try.underlying29 sz5 (by omega)) rfl ?_
  refine p_val (e_load rfl ag5 ((S.cell 0 rfl rfl _).trans (by rw [show (((i : Int) / 8).toNat * 1) = i / 8 by omega]; exact bv_getA (by omega)))) rfl ?_
  refine p_val (e_conv_in rfl Try.underlying5 (by simp) Try.underlying3 (IntWalk.i64_in _ (by omega))) rfl ?_
  refine p_val (e_assign (v := .int _ _) rfl) rfl ?_
  refine p_nil (x_then (s_seq (s_seq (s_plain ?_))))
  refine p_val (e_move (v := .int _ _) rfl) rfl ?_
  refine p_val (e_rem64 rfl rfl (by omega)) rfl ?_
  refine p_val (e_assign (v := .int _ _) rfl) rfl ?_
  refine p_nil (x_then (s_block ?_))
  refine s_loop (α := Nat) (fun g f' w' => ∃ u m, f' = upds u [(6, .int .i64 ((m : Nat) : Int)), (7, .int .i64 ((i % 8 + g : Nat) : Int))] ∧ m = shr32 ((ldig l).getD (i / 8) 0) g ∧ m < 256 ∧ i % 8 + g ≤ 7 ∧ St w0 w' [] [] []) (fun g => 7 - g) (0) (⟨_, (join 14 [l]).getD (i / 8) 0, upds_eq ⟨rfl, congrArg (Value.int .i64) (by omega), trivial⟩, rfl, hlt, by omega, S.none_⟩) ?_
  rintro g f w ⟨u, m, rfl, hm, hm2, hg, S⟩
  refine s_seq (s_seq (s_plain ?_))
  refine p_val (e_move (v := .int _ _) rfl) rfl ?_
  refine p_val (e_lss rfl rfl) rfl ?_
  refine p_nil (x_then ?_)
  refine s_cond rfl (fun hc1 => ?_) (fun hc1 => ?_)
  · refine s_skip (x_then (s_seq (s_block (s_plain ?_))))
    refine p_val (e_move (v := .int _ _) rfl) rfl ?_
    refine p_val (e_quo64 rfl rfl (by omega)) rfl ?_
    refine p_val (e_assign (v := .int _ _) rfl) rfl ?_
    refine p_nil (x_in (x_then (s_plain ?_)))
    refine p_val (e_move (v := .int _ _) rfl) rfl ?_
    refine p_val (e_add64 rfl rfl (by omega)) rfl ?_
    refine p_val (e_assign (v := .int _ _) rfl) rfl ?_
    refine p_nil ?_
    refine x_round (g + 1) _ rfl ⟨_, m / 2, upds_eq ⟨congrArg (Value.int .i64) (by omega), congrArg (Value.int .i64) (by omega), trivial⟩, by rw [hm]; unfold shr32; rw [Nat.shiftRight_succ], by omega, by omega, S⟩ (by omega)
  · refine s_exit (x_then_exit (x_then_exit (x_in_same (x_then (s_seq (s_plain ?_))))))
    refine p_val (e_move (v := .int _ _) rfl) rfl ?_
    refine p_val (e_rem64 rfl rfl (by omega)) rfl ?_
    refine p_val (e_assign (v := .int _ _) rfl) rfl ?_
    refine p_nil (x_then (s_ret ?_))
    exact post1 (v := .int _ _) Try.results26 rfl ⟨congrArg (Value.int .i64) (by rw [lbit, show 7 - i % 8 = g by omega, show (ldig l).getD (i / 8) 0 >>> g = m from hm.symm]; omega), S.to_below⟩
end Go.Proofs.Ytdhfiamgmokfbaa

/- Lists of sums under one sum, walked. It proves no statement by itself. -/
set_option linter.unusedSimpArgs false
set_option linter.unusedVariables false
set_option maxRecDepth 100000
set_option maxHeartbeats 1000000
namespace Go.Proofs.Ytdhfiamgmokfbaa
open Go Go.RowKit E
attribute [local irreducible] wpList seqH treeH
theorem take_getD {l : List (List Nat)} {g : Nat} (h : g < l.length) : l.take (g + 1) = l.take g ++ [l.getD g []] := by
  rw [List.take_add_one, List.getElem?_eq_getElem h, List.getD_eq_getElem?_getD, List.getElem?_eq_getElem h]; rfl
theorem upL_step {l : List (List Nat)} {g : Nat} (h : g % 2 = 0) (hg : g + 1 < l.length) : upL (l.take (g + 2)) = upL (l.take g) ++ [mpair (l.getD g []) (l.getD (g + 1) [])] := by
  have e : l.take (g + 2) = l.take g ++ [l.getD g [], l.getD (g + 1) []] := by
    rw [take_getD hg, take_getD (show g < l.length by omega), List.append_assoc]; rfl
  rw [e, upL_append _ _ (by rw [List.length_take]; omega)]
  rfl
theorem upL_last {l : List (List Nat)} {g : Nat} (h : g % 2 = 0) (hg : g + 1 = l.length) : upL l = upL (l.take g) ++ [l.getD g []] := by
  have e : l = l.take g ++ [l.getD g []] := by
    rw [← take_getD (by omega), List.take_of_length_le (by omega)]
  have e2 := congrArg upL e
  rw [upL_append _ _ (by rw [List.length_take]; omega)] at e2
  exact e2
theorem sv_put {M : List (List Nat)} (h : All32 M) {i : Nat} (hi : i < M.length) (x : List Nat) : (sv M).take (i * 32) ++ bv x ++ (sv M).drop (i * 32 + 32) = sv (M.set i x) := by
  have h1 := flat_take (c := bv) h.len i
  have h2 := flat_drop (c := bv) h.len (i + 1)
  have e : i * 32 + 32 = (i + 1) * 32 := by omega
  unfold sv
  rw [e, h1, h2, List.set_eq_take_append_cons_drop, if_pos hi, List.flatMap_append, List.flatMap_cons, List.append_assoc]
def leavesL (l : List (List Nat)) (g : Nat) : List (List Nat) := (l.take g).map mleaf ++ List.replicate (l.length - g) zsum
theorem leavesL_length {l : List (List Nat)} {g : Nat} (h : g ≤ l.length) : (leavesL l g).length = l.length := by simp [leavesL]; omega
theorem leavesL_all {l : List (List Nat)} {g : Nat} : All32 (leavesL l g) := by
  intro x hx
  rcases List.mem_append.1 hx with h | h
  · obtain ⟨y, _, rfl⟩ := List.mem_map.1 h; exact length_mleaf y
  · rw [(List.mem_replicate.1 h).2]; exact length_zsum
theorem leavesL_step {l : List (List Nat)} {g : Nat} (h : g < l.length) : (leavesL l g).set g (mleaf (l.getD g [])) = leavesL l (g + 1) := by
  unfold leavesL
  have h1 : ((l.take g).map mleaf).length = g := by simp; omega
  rw [List.set_append_right _ _ (by omega), h1, Nat.sub_self, show l.length - g = (l.length - (g + 1)) + 1 by omega, List.replicate_succ, List.set_cons_zero, take_getD h, List.map_append, List.append_assoc]
  rfl
theorem leavesL_all_done (l : List (List Nat)) : leavesL l l.length = l.map mleaf := by simp [leavesL]
theorem map_leaf_all (l : List (List Nat)) : All32 (l.map mleaf) := by
  intro x hx
  obtain ⟨y, _, rfl⟩ := List.mem_map.1 hx
  exact length_mleaf y
def mroot (l : List (List Nat)) : List Nat := if l.length = 0 then join 3 [] else rootI (l.map mleaf)
theorem length_rootI : ∀ (m : Nat) (l : List (List Nat)), l.length = m → 0 < l.length → All32 l → (rootI l).length = 32 := by
  intro m
  induction m using Nat.strongRecOn with
  | _ m ih =>
    intro l hm h0 ha
    by_cases h1 : l.length ≤ 1
    · match l, h0, h1 with
      | [x], _, _ => rw [rootI_one]; exact ha x (by simp)
    · rw [rootI_up h1]
      exact ih _ (by rw [upL_length]; omega) (upL l) rfl (by rw [upL_length]; omega) (upL_all ha)
theorem length_mroot (l : List (List Nat)) : (mroot l).length = 32 := by
  unfold mroot
  split
  · exact length_join _ _
  · exact length_rootI _ _ rfl (by rw [List.length_map]; omega) (map_leaf_all l)
theorem mk_leaf (w0 : World) (s : List Nat) (hs : s.length = 32) :
    Ret Try.prog 44 [.agg (bv s).toArray] w0 fun v w' => v = .agg (bv (mleaf s)).toArray ∧ Below w0.heap.size w0 w' := by
  refine enter Try.func44 rfl Try.ntmps44 (Nat.le_of_ble_eq_true rfl) ?_
  have S := St.init w0
  refine s_seq (s_plain ?_)
  refine p_does (d_boxA S rfl) rfl ?_
  rintro _ w ⟨b1, rfl, S⟩
  refine p_does (d_allocA S zvS) rfl ?_
  rintro _ w ⟨b2, rfl, S⟩
  refine p_nil (x_then (s_seq (s_plain ?_)))
  refine p_val (e_sl_arr rfl Try.underlying29 sz5) rfl ?_
  refine p_does (d_lit1 S Try.underlying90 sz33 zv33 rfl (vs := [.slice _ _ _]) rfl rfl rfl (by decide)) rfl ?_
  rintro _ w ⟨b4, rfl, S⟩
  refine p_does (d_call Try.func19 nm19 rfl rfl (join_calls _ _ _ _ [_] (Parts.one (S.rdRw 0 rfl rfl) (S.rdBytes 2 rfl rfl (by first | with_reducible assumption | (rw [bv_length]; with_reducible assumption) | (simp [cat, hs, length_join]; done) | (simp [cat, hs, length_join]; omega) | rfl))) (by first | (simp [joinB, len4, cat, hs, length_join]; done) | (simp [joinB, len4, cat, hs, length_join]; omega)) (by simp))) rfl ?_
  rintro _ w ⟨rfl, hB⟩
  have S := S.below hB
  refine p_does (d_storeW S 1 rfl rfl (by first | exact bv_one _ | exact sv_one _ | exact iv_one _ | with_reducible assumption | (refine One.mem ?_; repeat (first | exact One.bv _ | exact One.sv _ | exact One.iv _ | exact One.nil | exact One.cat0 | refine One.cat1 ?_ ?_ | refine One.cons rfl ?_ | refine One.append ?_ ?_))) sz29 (by first | with_reducible assumption | (rw [bv_length]; with_reducible assumption) | (simp [cat, hs, length_join]; done) | (simp [cat, hs, length_join]; omega) | rfl) rfl rfl (by first | with_reducible assumption | (rw [bv_length]; with_reducible assumption) | (simp [cat, hs, length_join]; done) | (simp [cat, hs, length_join]; omega) | rfl)) rfl ?_
  intro _ w S
  refine p_nil (x_then (s_ret ?_))
  exact postC Try.results44 S 1 rfl rfl rfl ag29 sz29 (by first | with_reducible assumption | (rw [bv_length]; with_reducible assumption) | (simp [cat, hs, length_join]; done) | (simp [cat, hs, length_join]; omega) | rfl) (⟨rfl, S.to_below⟩)
theorem l3leaf (w0 : World) (s : List Nat) (hs : s.length = 32) :
    Ret Try.prog 45 [.agg (bv s).toArray] w0 fun v w' => v = .agg (bv (mleaf s)).toArray ∧ Below w0.heap.size w0 w' := by
  refine enter Try.func45 rfl Try.ntmps45 (Nat.le_of_ble_eq_true rfl) ?_
  have S := St.init w0
  refine s_seq (s_plain ?_)
  refine p_does (d_boxA S rfl) rfl ?_
  rintro _ w ⟨b1, rfl, S⟩
  refine p_does (d_allocA S zvS) rfl ?_
  rintro _ w ⟨b2, rfl, S⟩
  refine p_nil (x_then (s_seq (s_plain ?_)))
  refine p_val (e_sl_arr rfl Try.underlying29 sz5) rfl ?_
  refine p_does (d_lit1 S Try.underlying90 sz33 zv33 rfl (vs := [.slice _ _ _]) rfl rfl rfl (by decide)) rfl ?_
  rintro _ w ⟨b4, rfl, S⟩
  refine p_does (d_call Try.func19 nm19 rfl rfl (join_calls _ _ _ _ [_] (Parts.one (S.rdRw 0 rfl rfl) (S.rdBytes 2 rfl rfl (by first | with_reducible assumption | (rw [bv_length]; with_reducible assumption) | (simp [cat, hs, length_join]; done) | (simp [cat, hs, length_join]; omega) | rfl))) (by first | (simp [joinB, len4, cat, hs, length_join]; done) | (simp [joinB, len4, cat, hs, length_join]; omega)) (by simp))) rfl ?_
  rintro _ w ⟨rfl, hB⟩
  have S := S.below hB
  refine p_does (d_storeW S 1 rfl rfl (by first | exact bv_one _ | exact sv_one _ | exact iv_one _ | with_reducible assumption | (refine One.mem ?_; repeat (first | exact One.bv _ | exact One.sv _ | exact One.iv _ | exact One.nil | exact One.cat0 | refine One.cat1 ?_ ?_ | refine One.cons rfl ?_ | refine One.append ?_ ?_))) sz29 (by first | with_reducible assumption | (rw [bv_length]; with_reducible assumption) | (simp [cat, hs, length_join]; done) | (simp [cat, hs, length_join]; omega) | rfl) rfl rfl (by first | with_reducible assumption | (rw [bv_length]; with_reducible assumption) | (simp [cat, hs, length_join]; done) | (simp [cat, hs, length_join]; omega) | rfl)) rfl ?_
  intro _ w S
  refine p_nil (x_then (s_ret ?_))
  exact postC Try.results45 S 1 rfl rfl rfl ag29 sz29 (by first | with_reducible assumption | (rw [bv_length]; with_reducible assumption) | (simp [cat, hs, length_join]; done) | (simp [cat, hs, length_join]; omega) | rfl) (⟨rfl, S.to_below⟩)
theorem mk_leaves (w0 : World) (A : Option Addr) (c : Nat) (L : List (List Nat)) (R : Rd w0 32 A L.length (sv L)) (hL : All32 L) (hn : L.length ≤ 1000000) :
    Ret Try.prog 86 [.slice A L.length c] w0 fun v w' => ∃ k c, v = .slice (at_ k) (L.map mleaf).length c ∧ St w0 w' [] [k] [Rw 29 32 (L.map mleaf).length c (sv (L.map mleaf))] := by
  refine enter Try.func86 rfl Try.ntmps86 (Nat.le_of_ble_eq_true rfl) ?_
  have S := St.init w0
  refine s_seq (s_plain ?_)
  refine p_val (e_assign (v := .slice _ _ _) rfl) rfl ?_
  refine p_nil (x_then (s_seq (s_plain ?_)))
  refine p_val (e_move (v := .slice _ _ _) rfl) rfl ?_
  refine p_val (e_len rfl Try.underlying24) rfl ?_
  refine p_does (d_makeN (c := bv) (z0 := zsum) S Try.underlying24 el29 zvS rfl L.length rfl rfl (by omega) (by unfold maxLen; omega)) rfl ?_
  rintro _ w ⟨b8, rfl, S⟩
  refine p_val (e_assign (v := .slice _ _ _) rfl) rfl ?_
  refine p_nil (x_then (s_seq (s_seq (s_plain ?_))))
  refine p_val (e_move (v := .slice _ _ _) rfl) rfl ?_
  refine p_val (e_len rfl Try.underlying24) rfl ?_
  refine p_val (e_move (v := .int _ _) rfl) rfl ?_
  refine p_nil (x_then (s_block ?_))
  refine s_loopK (α := Nat) (ks := [some b8]) (ps := [Rw _ _ _ _ _]) [(3, .slice _ _ _), (9, .slice _ _ _), (10, .int _ _)] ⟨rfl, rfl, rfl, trivial⟩ S (fun keep ks ps g f' w' => ∃ u xs, f' = upds u ((11, .int .i64 (g : Int)) :: keep) ∧ (g ≤ L.length) ∧ (xs = sv (leavesL L g)) ∧ St w0 w' [] [some b8] [Rw 29 32 L.length L.length xs]) (fun g => L.length - g) (0) (⟨_, _, upds_eq ⟨rfl, rfl, rfl, rfl, trivial⟩, by first | omega | rfl | with_reducible assumption | (simp; done) | (simp; omega), by simp [leavesL, sv], S⟩) ?_
  rintro g f w ⟨u, xs, rfl, hg, rfl, S⟩
  refine s_seq (s_plain ?_)
  refine p_val (e_lss rfl rfl) rfl ?_
  refine p_nil (x_then (s_seq ?_))
  refine s_cond rfl (fun hc12 => ?_) (fun hc12 => ?_)
  · refine s_skip (x_then (s_seq (s_block (s_seq (s_plain ?_)))))
    refine p_val (e_move (v := .int _ _) rfl) rfl ?_
    refine p_val (e_ixR (S.rdOld R rfl) (by decide) rfl rfl Try.underlying24 sz29 (by omega)) rfl ?_
    have hgl : (L.getD (g : Int).toNat []).length = 32 := hL.getD (by omega)
    refine p_val (e_loadRA rfl ag29 sz29 (by decide) (Rd.sumA (S.rdOld R rfl) (by with_reducible assumption) (by omega))) rfl ?_
    refine p_does (d_allocA S zvS) rfl ?_
    rintro _ w ⟨b5, rfl, S⟩
    refine p_val (e_assign (v := .int _ _) rfl) rfl ?_
    refine p_does (d_storeW S 0 rfl rfl (by first | exact bv_one _ | exact sv_one _ | exact iv_one _ | with_reducible assumption | (refine One.mem ?_; repeat (first | exact One.bv _ | exact One.sv _ | exact One.iv _ | exact One.nil | exact One.cat0 | refine One.cat1 ?_ ?_ | refine One.cons rfl ?_ | refine One.append ?_ ?_))) sz29 (by first | with_reducible assumption | (rw [bv_length]; with_reducible assumption) | (simp [cat, length_mleaf, hgl]; done) | (simp [cat, length_mleaf, hgl]; omega) | rfl) rfl rfl (by first | with_reducible assumption | (rw [bv_length]; with_reducible assumption) | (simp [cat, length_mleaf, hgl]; done) | (simp [cat, length_mleaf, hgl]; omega) | rfl)) rfl ?_
    intro _ w S
    refine p_nil (x_then (s_plain ?_))
    refine p_val (e_move (v := .slice _ _ _) rfl) rfl ?_
    refine p_val (e_move (v := .int _ _) rfl) rfl ?_
    refine p_val (e_loadW 0 rfl ag29 sz29 S rfl rfl (by first | with_reducible assumption | (rw [bv_length]; with_reducible assumption) | (simp [cat, length_mleaf, hgl]; done) | (simp [cat, length_mleaf, hgl]; omega) | rfl)) rfl ?_
    refine p_does (d_call Try.func44 nm44 rfl rfl (mk_leaf _ _ (by first | with_reducible assumption | (rw [bv_length]; with_reducible assumption) | (simp [cat, length_mleaf, hgl]; done) | (simp [cat, length_mleaf, hgl]; omega) | rfl))) rfl ?_
    rintro _ w ⟨rfl, hB⟩
    have S := S.below hB
    refine p_val (e_ixR (S.rdRw 1 rfl rfl) (by decide) rfl rfl Try.underlying24 sz29 (by omega)) rfl ?_
    refine p_does (d_storeRwN S 1 rfl rfl rfl rfl (bv_one _) sz29 (by simp [length_mleaf]) (by omega) (by decide)) rfl ?_
    intro _ w S
    refine p_nil (x_in (x_then (s_plain ?_)))
    refine p_val (e_add64 rfl rfl (by omega)) rfl ?_
    refine p_val (e_move (v := .int _ _) rfl) rfl ?_
    refine p_nil ?_
    refine x_round (g + 1) _ rfl ⟨_, _, upds_eq ⟨rfl, rfl, rfl, rfl, trivial⟩, by first | omega | rfl | with_reducible assumption | (simp; done) | (simp; omega), by rw [Int.toNat_natCast, sv_put leavesL_all (by rw [leavesL_length hg]; omega), leavesL_step (by omega)], S.pk [1] rfl⟩ (by omega)
  · refine s_exit (x_then_exit (x_then_exit (x_in_same (x_then (s_seq (s_plain ?_))))))
    refine p_val (e_move (v := .slice _ _ _) rfl) rfl ?_
    refine p_val (e_assign (v := .slice _ _ _) rfl) rfl ?_
    refine p_nil (x_then (s_ret ?_))
    exact post1 (v := .slice _ _ _) Try.results86 rfl (by obtain rfl : g = L.length := (by omega); rw [leavesL_all_done] at S; exact ⟨some b8, L.length, by rw [List.length_map], by rw [List.length_map]; exact S.pk [0] rfl⟩)
theorem mk_up (w0 : World) (A : Option Addr) (c : Nat) (L : List (List Nat)) (R : Rd w0 32 A L.length (sv L)) (hL : All32 L) (hn : L.length ≤ 1000000) :
    Ret Try.prog 87 [.slice A L.length c] w0 fun v w' => ∃ k c, v = .slice (at_ k) (upL L).length c ∧ St w0 w' [] [k] [Rw 29 32 (upL L).length c (sv (upL L))] := by
  refine enter Try.func87 rfl Try.ntmps87 (Nat.le_of_ble_eq_true rfl) ?_
  have S := St.init w0
  refine s_seq (s_plain ?_)
  refine p_val (e_assign (v := .slice _ _ _) rfl) rfl ?_
  refine p_nil (x_then (s_seq (s_plain ?_)))
  refine p_val (e_assign (v := .slice _ _ _) rfl) rfl ?_
  refine p_nil (x_then (s_seq (s_seq (s_plain ?_))))
  refine p_val (e_assign (v := .int _ _) rfl) rfl ?_
  refine p_nil (x_then (s_block ?_))
  have S := S.addNil 29 32
  refine s_loopK (α := Nat) (ks := [none]) (ps := [Rw _ _ _ _ _]) [(0, .slice _ _ _)] ⟨rfl, trivial⟩ S (fun keep ks ps g f' w' => ∃ u Kk3 Ck3 m xs, f' = upds u ((3, .slice (at_ Kk3) (m) Ck3) :: (4, .int .i64 (g : Int)) :: keep) ∧ (g % 2 = 0) ∧ (g ≤ L.length) ∧ (m = g / 2) ∧ (xs = sv (upL (L.take g))) ∧ St w0 w' [] [Kk3] [Rw 29 32 (m) Ck3 (xs)]) (fun g => L.length - g) (0) (⟨_, _, _, _, _, upds_eq ⟨rfl, rfl, rfl, trivial⟩, by first | omega | rfl | with_reducible assumption | (simp; done) | (simp; omega), by first | omega | rfl | with_reducible assumption | (simp; done) | (simp; omega), by first | omega | rfl | with_reducible assumption | (simp; done) | (simp; omega), by first | omega | rfl | with_reducible assumption | (simp; done) | (simp; omega), S⟩) ?_
  rintro g f w ⟨u, Kk3, Ck3, m, xs, rfl, hq, hg, rfl, rfl, S⟩
  refine s_seq (s_seq (s_plain ?_))
  refine p_val (e_move (v := .int _ _) rfl) rfl ?_
  refine p_val (e_add64 rfl rfl (by omega)) rfl ?_
  refine p_val (e_move (v := .slice _ _ _) rfl) rfl ?_
  refine p_val (e_len rfl Try.underlying24) rfl ?_
  refine p_val (e_lss rfl rfl) rfl ?_
  refine p_nil (x_then ?_)
  refine s_cond rfl (fun hc9 => ?_) (fun hc9 => ?_)
  · refine s_skip (x_then (s_seq (s_block ?_)))
    have hg1 : (L.getD (g : Int).toNat []).length = 32 := hL.getD (by omega)
    have hg2 : (L.getD ((g : Int) + 1).toNat []).length = 32 := hL.getD (by omega)
    refine s_drawK (ks := []) (ps := []) (S.pk [] rfl) [(true, 0), (true, 1), (true, 2), (true, 3), (true, 4), (true, 5), (true, 6), (true, 7), (true, 8), (true, 9), (false, 10), (false, 11), (false, 12)] [13] [13] mixed (by kernel_rfl) (by repeat (first | exact Calm.post _ _ _ | refine Calm.then ?_ _ | refine Calm.inB ?_ _)) (fun hS => ?_)
    have S := S.drew
    refine q_val (fun w hS => e_move (v := .slice _ _ _) rfl) rfl hS ?_
    refine q_val (fun w hS => e_move (v := .slice _ _ _) rfl) rfl hS ?_
    refine q_val (fun w hS => e_move (v := .int _ _) rfl) rfl hS ?_
    refine q_val (fun w hS => e_ixR (hS.rdOld R rfl) (by decide) rfl rfl Try.underlying24 sz29 (by omega)) rfl hS ?_
    refine q_val (fun w hS => e_loadRA rfl ag29 sz29 (by decide) (Rd.sumA (hS.rdOld R rfl) (by with_reducible assumption) (by omega))) rfl hS ?_
    refine q_val (fun w hS => e_move (v := .slice _ _ _) rfl) rfl hS ?_
    refine q_val (fun w hS => e_move (v := .int _ _) rfl) rfl hS ?_
    refine q_val (fun w hS => e_add64 rfl rfl (by omega)) rfl hS ?_
    refine q_val (fun w hS => e_ixR (hS.rdOld R rfl) (by decide) rfl rfl Try.underlying24 sz29 (by omega)) rfl hS ?_
    refine q_val (fun w hS => e_loadRA rfl ag29 sz29 (by decide) (Rd.sumA (hS.rdOld R rfl) (by with_reducible assumption) (by omega))) rfl hS ?_
    refine q_does (d_call Try.func85 nm85 rfl rfl (pair_calls _ _ _ _ (by first | with_reducible assumption | (rw [bv_length]; with_reducible assumption) | (simp [cat, length_join, hg1, hg2]; done) | (simp [cat, length_join, hg1, hg2]; omega) | rfl) (by first | with_reducible assumption | (rw [bv_length]; with_reducible assumption) | (simp [cat, length_join, hg1, hg2]; done) | (simp [cat, length_join, hg1, hg2]; omega) | rfl))) rfl ?_
    rintro _ w ⟨rfl, hB⟩
    have S := S.below hB
    have hS := S.pk [] rfl
    refine ⟨hS, ?_⟩
    refine q_does (d_litS S Try.underlying24 sz29 zv29 rfl (L := [_]) rfl rfl (by intro x hx; simp at hx; simp [hx, length_join, hg1, hg2]) (by decide)) rfl ?_
    rintro _ w ⟨b23, rfl, S⟩
    have hS := S.pk [] rfl
    refine ⟨hS, ?_⟩
    refine q_does (d_append S 1 rfl rfl Try.underlying24 el29 rfl rfl (S.rdRw 0 rfl rfl) (by first | exact bv_one _ | exact sv_one _ | exact iv_one _ | with_reducible assumption | (refine One.mem ?_; repeat (first | exact One.bv _ | exact One.sv _ | exact One.iv _ | exact One.nil | exact One.cat0 | refine One.cat1 ?_ ?_ | refine One.cons rfl ?_ | refine One.append ?_ ?_))) (by first | omega | (simp only [List.length_append, List.length_cons, List.length_nil, bv_length, length_join, hg1, hg2]; omega) | (simp [cat, length_join, hg1, hg2]; omega)) (by unfold maxLen; first | omega | (simp only [List.length_append, List.length_cons, List.length_nil, bv_length, length_join, hg1, hg2]; omega))) rfl ?_
    rintro _ w ⟨k24, c24, rfl, S⟩
    have hS := S.pk [] rfl
    refine ⟨hS, ?_⟩
    refine q_nil ?_
    refine p_val (e_assign (v := .slice _ _ _) rfl) rfl ?_
    refine p_nil (x_in (x_then (s_plain ?_)))
    refine p_val (e_move (v := .int _ _) rfl) rfl ?_
    refine p_val (e_add64 rfl rfl (by omega)) rfl ?_
    refine p_val (e_assign (v := .int _ _) rfl) rfl ?_
    refine p_nil ?_
    refine x_round (g + 2) _ rfl ⟨_, _, _, _, _, upds_eq ⟨rfl, rfl, rfl, trivial⟩, by first | omega | rfl | with_reducible assumption | (simp; done) | (simp; omega), by first | omega | rfl | with_reducible assumption | (simp; done) | (simp; omega), by first | omega | rfl | with_reducible assumption | (simp; done) | (simp; omega), by rw [← sv_append, upL_step hq (by omega), Int.toNat_natCast, show ((g : Int) + 1).toNat = g + 1 by omega]; rfl, S.pk [1] rfl⟩ (by omega)
  · refine s_exit (x_then_exit (x_then_exit (x_in_same (x_then (s_seq ?_)))))
    refine s_cutK (ks := [Kk3]) (ps := [Rw _ _ _ _ _]) [] trivial S (fun keep ks ps f' w' => ∃ u Kk3 Ck3 m2 xs2, f' = upds u ((3, .slice (at_ Kk3) (m2) Ck3) :: keep) ∧ (m2 = (upL L).length) ∧ (xs2 = sv (upL L)) ∧ St w0 w' [] [Kk3] [Rw 29 32 (m2) Ck3 (xs2)]) ?_ ?_
    · refine s_seq (s_plain ?_)
      refine p_val (e_move (v := .slice _ _ _) rfl) rfl ?_
      refine p_val (e_len rfl Try.underlying24) rfl ?_
      refine p_val (e_rem64 rfl rfl (by omega)) rfl ?_
      refine p_val (e_eql rfl rfl) rfl ?_
      refine p_nil (x_then ?_)
      refine s_cond rfl (fun hc28 => ?_) (fun hc28 => ?_)
      · refine s_plain ?_
        refine p_val (e_move (v := .slice _ _ _) rfl) rfl ?_
        refine p_val (e_move (v := .slice _ _ _) rfl) rfl ?_
        refine p_val (e_move (v := .slice _ _ _) rfl) rfl ?_
        refine p_val (e_len rfl Try.underlying24) rfl ?_
        refine p_val (e_sub64 rfl rfl (by omega)) rfl ?_
        refine p_val (e_ixR (S.rdOld R rfl) (by decide) rfl rfl Try.underlying24 sz29 (by omega)) rfl ?_
        refine p_val (e_loadRA rfl ag29 sz29 (by decide) (Rd.sumA (S.rdOld R rfl) (by with_reducible assumption) (by omega))) rfl ?_
        refine p_does (d_litS S Try.underlying24 sz29 zv29 rfl (L := [_]) rfl rfl (All32.single (hL.getD (by omega))) (by decide)) rfl ?_
        rintro _ w ⟨b36, rfl, S⟩
        refine p_does (d_append S 1 rfl rfl Try.underlying24 el29 rfl rfl (S.rdRw 0 rfl rfl) (by first | exact bv_one _ | exact sv_one _ | exact iv_one _ | with_reducible assumption | (refine One.mem ?_; repeat (first | exact One.bv _ | exact One.sv _ | exact One.iv _ | exact One.nil | exact One.cat0 | refine One.cat1 ?_ ?_ | refine One.cons rfl ?_ | refine One.append ?_ ?_))) (by first | omega | (simp only [List.length_append, List.length_cons, List.length_nil, bv_length, length_join, hg1, hg2]; omega) | (simp [cat, length_join, hg1, hg2]; omega)) (by unfold maxLen; first | omega | (simp only [List.length_append, List.length_cons, List.length_nil, bv_length, length_join, hg1, hg2]; omega))) rfl ?_
        rintro _ w ⟨k37, c37, rfl, S⟩
        refine p_val (e_assign (v := .slice _ _ _) rfl) rfl ?_
        refine p_nil ?_
        exact x_then ⟨_, rfl, _, _, _, _, _, upds_eq ⟨rfl, trivial⟩, by rw [upL_length]; omega, by rw [← sv_append, upL_last (l := L) (g := g) hq (by omega), show ((L.length : Int) - 1).toNat = g by omega], S.pk [1] rfl⟩
      · refine s_skip ?_
        exact x_then ⟨_, rfl, _, _, _, _, _, upds_eq ⟨rfl, trivial⟩, by rw [upL_length]; omega, by rw [List.take_of_length_le (by omega)], S⟩
    · rintro f w ⟨u, Kk3, Ck3, m2, xs2, rfl, rfl, rfl, S⟩
      refine x_then (s_seq (s_plain ?_))
      refine p_val (e_move (v := .slice _ _ _) rfl) rfl ?_
      refine p_val (e_assign (v := .slice _ _ _) rfl) rfl ?_
      refine p_nil (x_then (s_ret ?_))
      exact post1 (v := .slice _ _ _) Try.results87 rfl (⟨_, _, rfl, S.pk [0] rfl⟩)
end Go.Proofs.Ytdhfiamgmokfbaa

/- Roots, paths and what is checked, walked. It proves no statement by itself. -/
set_option linter.unusedSimpArgs false
set_option linter.unusedVariables false
set_option maxRecDepth 100000
set_option maxHeartbeats 1000000
namespace Go.Proofs.Ytdhfiamgmokfbaa
open Go Go.RowKit E
attribute [local irreducible] wpList seqH treeH
theorem Parts.zero {w : World} : Parts w none [] := ⟨[], Rd.nil _ _ _, fun j v h => by simp at h⟩
theorem xor1_sidx (b : Nat) : xor1 (b : Int) = ((sidx b : Nat) : Int) := by
  unfold xor1 sidx
  split <;> omega
theorem rootI_head {l : List (List Nat)} (h : l.length = 1) : rootI l = l.getD 0 [] := by
  match l, h with
  | [x], _ => rw [rootI_one]; rfl
def mpath (l : List (List Nat)) (a : Int) : List (List Nat) := if 0 ≤ a ∧ a < (l.length : Int) then pathI (l.map mleaf) a.toNat else []
theorem sib_all {l : List (List Nat)} (h : All32 l) (a : Nat) : All32 (sib l a) := by
  unfold sib
  split
  · intro x hx; rw [List.mem_singleton.1 hx]; exact h.getD (by assumption)
  · intro x hx; simp at hx
theorem pathI_all : ∀ (m : Nat) (l : List (List Nat)) (a : Nat), l.length = m → All32 l → All32 (pathI l a) := by
  intro m
  induction m using Nat.strongRecOn with
  | _ m ih =>
    intro l a hm hl
    by_cases h1 : l.length ≤ 1
    · rw [pathI_one h1]; intro x hx; simp at hx
    · rw [pathI_up h1]
      exact (sib_all hl a).append (ih _ (by rw [upL_length]; omega) (upL l) (a / 2) rfl (upL_all hl))
theorem mpath_all (l : List (List Nat)) (a : Int) : All32 (mpath l a) := by
  unfold mpath
  split
  · exact pathI_all _ _ _ rfl (map_leaf_all l)
  · intro x hx; simp at hx
theorem mk_root (w0 : World) (A : Option Addr) (c : Nat) (L : List (List Nat)) (R : Rd w0 32 A L.length (sv L)) (hL : All32 L) (hn : L.length ≤ 1000000) :
    Ret Try.prog 42 [.slice A L.length c] w0 fun v w' => v = .agg (bv (mroot L)).toArray ∧ Below w0.heap.size w0 w' := by
  refine enter Try.func42 rfl Try.ntmps42 (Nat.le_of_ble_eq_true rfl) ?_
  have S := St.init w0
  refine s_seq (s_plain ?_)
  refine p_does (d_allocA S zvS) rfl ?_
  rintro _ w ⟨b2, rfl, S⟩
  refine p_nil (x_then (s_seq (s_seq (s_plain ?_))))
  refine p_val (e_move (v := .slice _ _ _) rfl) rfl ?_
  refine p_val (e_len rfl Try.underlying24) rfl ?_
  refine p_val (e_eql rfl rfl) rfl ?_
  refine p_nil (x_then ?_)
  refine s_cond rfl (fun hc6 => ?_) (fun hc6 => ?_)
  · refine s_seq (s_plain ?_)
    refine p_does (d_call Try.func19 nm19 rfl rfl (join_calls _ 3 none 0 [] Parts.zero (by simp [joinB]) (by simp))) rfl ?_
    rintro _ w ⟨rfl, hB⟩
    have S := S.below hB
    refine p_does (d_storeW S 0 rfl rfl (by first | exact bv_one _ | exact sv_one _ | exact iv_one _ | with_reducible assumption | (refine One.mem ?_; repeat (first | exact One.bv _ | exact One.sv _ | exact One.iv _ | exact One.nil | exact One.cat0 | refine One.cat1 ?_ ?_ | refine One.cons rfl ?_ | refine One.append ?_ ?_))) sz29 (by first | with_reducible assumption | (rw [bv_length]; with_reducible assumption) | (simp [cat, length_join, length_zsum]; done) | (simp [cat, length_join, length_zsum]; omega) | rfl) rfl rfl (by first | with_reducible assumption | (rw [bv_length]; with_reducible assumption) | (simp [cat, length_join, length_zsum]; done) | (simp [cat, length_join, length_zsum]; omega) | rfl)) rfl ?_
    intro _ w S
    refine p_nil (x_then (s_ret (x_then_ret ?_)))
    exact postC Try.results42 S 0 rfl rfl rfl ag29 sz29 (by first | with_reducible assumption | (rw [bv_length]; with_reducible assumption) | (simp [cat, length_join, length_zsum]; done) | (simp [cat, length_join, length_zsum]; omega) | rfl) (⟨by unfold mroot; rw [if_pos (by omega)], S.to_below⟩)
  · refine s_skip (x_then (s_seq (s_plain ?_)))
    refine p_val (e_move (v := .slice _ _ _) rfl) rfl ?_
    refine p_does (d_call Try.func86 nm86 rfl rfl (mk_leaves _ _ _ _ (S.rdOld R rfl) (by with_reducible assumption) (by omega))) rfl ?_
    rintro _ w ⟨k9, c9, rfl, T⟩
    have S := S.merge T rfl
    refine p_val (e_assign (v := .slice _ _ _) rfl) rfl ?_
    refine p_nil (x_then (s_seq (s_block ?_)))
    refine s_loopK (α := List (List Nat)) (ks := [k9, some b2]) (ps := [Rw _ _ _ _ _, Ex _ _]) [(2, .pointer _)] ⟨rfl, trivial⟩ S (fun keep ks ps M f' w' => ∃ u Kk9 Ck9, f' = upds u ((3, .slice (at_ Kk9) (M.length) Ck9) :: keep) ∧ (All32 M) ∧ (rootI M = rootI (L.map mleaf)) ∧ (1 ≤ M.length) ∧ (M.length ≤ 1000000) ∧ St w0 w' [] [Kk9, some b2] [Rw 29 32 (M.length) Ck9 (sv M), (ps.getD 1 fun _ => True)]) (fun M => M.length) (L.map mleaf) (⟨_, _, _, upds_eq ⟨rfl, rfl, trivial⟩, map_leaf_all L, by first | omega | rfl | with_reducible assumption | (simp; done) | (simp; omega), by rw [List.length_map]; omega, by rw [List.length_map]; omega, S⟩) ?_
    rintro M f w ⟨u, Kk9, Ck9, rfl, hM, hr, h1, hm, S⟩
    refine s_seq (s_seq (s_plain ?_))
    refine p_val (e_move (v := .slice _ _ _) rfl) rfl ?_
    refine p_val (e_len rfl Try.underlying24) rfl ?_
    refine p_val (e_gtr rfl rfl) rfl ?_
    refine p_nil (x_then ?_)
    refine s_cond rfl (fun hc12 => ?_) (fun hc12 => ?_)
    · refine s_skip (x_then (s_block (s_plain ?_)))
      refine p_val (e_move (v := .slice _ _ _) rfl) rfl ?_
      refine p_does (d_call Try.func87 nm87 rfl rfl (mk_up _ _ _ _ (S.rdRw 0 rfl rfl) (by with_reducible assumption) (by omega))) rfl ?_
      rintro _ w ⟨k14, c14, rfl, T⟩
      have S := S.merge T rfl
      refine p_val (e_assign (v := .slice _ _ _) rfl) rfl ?_
      refine p_nil (x_in ?_)
      refine x_round (upL M) _ rfl ⟨_, _, _, upds_eq ⟨rfl, rfl, trivial⟩, upL_all hM, by rw [← rootI_up (by omega)]; exact hr, by rw [upL_length]; omega, by rw [upL_length]; omega, S.pk [0, 2] rfl⟩ (by rw [upL_length]; omega)
    · refine s_exit (x_then_exit (x_then_exit (x_in_same (x_then (s_seq (s_plain ?_))))))
      have h0 : (M.getD (0 : Int).toNat []).length = 32 := hM.getD (by simp; omega)
      refine p_val (e_move (v := .slice _ _ _) rfl) rfl ?_
      refine p_val (e_ixR (S.rdRw 0 rfl rfl) (by decide) rfl rfl Try.underlying24 sz29 (by omega)) rfl ?_
      refine p_val (e_loadRA rfl ag29 sz29 (by decide) (Rd.sumA (S.rdRw 0 rfl rfl) (by with_reducible assumption) (by omega))) rfl ?_
      refine p_does (d_storeW S 1 rfl rfl (by first | exact bv_one _ | exact sv_one _ | exact iv_one _ | with_reducible assumption | (refine One.mem ?_; repeat (first | exact One.bv _ | exact One.sv _ | exact One.iv _ | exact One.nil | exact One.cat0 | refine One.cat1 ?_ ?_ | refine One.cons rfl ?_ | refine One.append ?_ ?_))) sz29 (by rw [bv_length]; exact h0) rfl rfl (by first | with_reducible assumption | (rw [bv_length]; with_reducible assumption) | (simp [cat, length_join, length_zsum]; done) | (simp [cat, length_join, length_zsum]; omega) | rfl)) rfl ?_
      intro _ w S
      refine p_nil (x_then (s_ret ?_))
      exact postC Try.results42 S 1 rfl rfl rfl ag29 sz29 (by rw [List.size_toArray, bv_length]; exact h0) (⟨by unfold mroot; rw [if_neg (by omega), ← hr, rootI_head (by omega)]; rfl, S.to_below⟩)
theorem mk_path (w0 : World) (a : Int) (A : Option Addr) (c : Nat) (L : List (List Nat)) (R : Rd w0 32 A L.length (sv L)) (hL : All32 L) (hn : L.length ≤ 1000000) :
    Ret Try.prog 41 [.int .i64 a, .slice A L.length c] w0 fun v w' => ∃ k c2, v = .tuple #[.slice (at_ k) (mpath L a).length c2, .bool (decide (0 ≤ a ∧ a < (L.length : Int)))] ∧ St w0 w' [] [k] [Rw 29 32 (mpath L a).length c2 (sv (mpath L a))] := by
  refine enter Try.func41 rfl Try.ntmps41 (Nat.le_of_ble_eq_true rfl) ?_
  have S := St.init w0
  refine s_seq (s_plain ?_)
  refine p_val (e_assign (v := .slice _ _ _) rfl) rfl ?_
  refine p_val (e_assign (v := .bool _) rfl) rfl ?_
  refine p_nil (x_then (s_seq (s_seq ?_)))
  refine s_cutK (ks := []) (ps := []) [(0, .int _ _), (1, .slice _ _ _)] ⟨rfl, rfl, trivial⟩ S (fun keep ks ps f' w' => ∃ u bb, f' = upds u ((16, .bool bb) :: keep) ∧ (bb = true ↔ ((a < (0 : Int)) ∨ (((L.length : Nat) : Int) ≤ a))) ∧ St w0 w' [] ks ps) ?_ ?_
  · refine s_plain ?_
    refine p_val (e_move (v := .int _ _) rfl) rfl ?_
    refine p_valB (e_lss rfl rfl) rfl (fun hg10 => ?_) (fun hg10 => ?_)
    · refine p_val (e_move (v := .bool _) rfl) rfl ?_
      refine p_no rfl rfl rfl rfl rfl ?_
      refine p_no rfl rfl rfl rfl rfl ?_
      refine p_no rfl rfl rfl rfl rfl ?_
      refine p_no rfl rfl rfl rfl rfl ?_
      refine p_val (e_pick_t rfl rfl) rfl ?_
      exact p_nil (x_then ⟨_, rfl, _, _, upds_eq ⟨rfl, rfl, rfl, trivial⟩, by first | (simp only [decide_eq_true_eq, eq_self, true_iff, iff_true, iff_false, Bool.false_eq_true, false_iff, ge_iff_le, gt_iff_lt, true_and, and_true, false_and, and_false, true_or, or_true, false_or, or_false, not_true_eq_false, not_false_eq_true]; omega) | simp | omega | simp_all, S⟩)
    · refine p_val (e_move (v := .bool _) rfl) rfl ?_
      refine pg_val rfl rfl rfl rfl rfl (e_move (v := .int _ _) rfl) ?_
      refine pg_val rfl rfl rfl rfl rfl (e_move (v := .slice _ _ _) rfl) ?_
      refine pg_val rfl rfl rfl rfl rfl (e_len rfl Try.underlying24) ?_
      refine pg_val rfl rfl rfl rfl rfl (e_geq rfl rfl) ?_
      refine p_val (e_pick_f rfl rfl) rfl ?_
      exact p_nil (x_then ⟨_, rfl, _, _, upds_eq ⟨rfl, rfl, rfl, trivial⟩, by first | (simp only [decide_eq_true_eq, eq_self, true_iff, iff_true, iff_false, Bool.false_eq_true, false_iff, ge_iff_le, gt_iff_lt, true_and, and_true, false_and, and_false, true_or, or_true, false_or, or_false, not_true_eq_false, not_false_eq_true]; omega) | simp | omega | simp_all, S⟩)
  · rintro f w ⟨u, b16, rfl, hb16, S⟩
    refine x_then ?_
    refine s_condb rfl (fun hc16 => ?_) (fun hc16 => ?_)
    · have hp16 : ((a < (0 : Int)) ∨ (((L.length : Nat) : Int) ≤ a)) := hb16.1 hc16
      refine s_seq (s_plain ?_)
      refine p_val (e_assign (v := .slice _ _ _) rfl) rfl ?_
      refine p_val (e_assign (v := .bool _) rfl) rfl ?_
      refine p_nil (x_then (s_ret (x_then_ret ?_)))
      exact post2 (v := .slice _ _ _) (x := .bool _) Try.results41 rfl rfl (by have e0 : ¬ (0 ≤ a ∧ a < (L.length : Int)) := by { omega }; unfold mpath; rw [if_neg e0, decide_eq_false e0]; exact ⟨none, 0, rfl, S.none_.addNil 29 32⟩)
    · have hp16 : ¬ ((a < (0 : Int)) ∨ (((L.length : Nat) : Int) ≤ a)) := fun h => by rw [hb16.2 h] at hc16; cases hc16
      refine s_skip (x_then (s_seq (s_plain ?_)))
      refine p_val (e_assign (v := .slice _ _ _) rfl) rfl ?_
      refine p_nil (x_then (s_seq (s_seq (s_plain ?_))))
      refine p_val (e_move (v := .slice _ _ _) rfl) rfl ?_
      refine p_does (d_call Try.func86 nm86 rfl rfl (mk_leaves _ _ _ _ (S.rdOld R rfl) (by with_reducible assumption) (by omega))) rfl ?_
      rintro _ w ⟨k18, c18, rfl, T⟩
      have S := S.merge T rfl
      refine p_val (e_assign (v := .slice _ _ _) rfl) rfl ?_
      refine p_nil (x_then (s_block ?_))
      obtain ⟨b0, rfl⟩ : ∃ b0 : Nat, a = (b0 : Int) := ⟨a.toNat, by omega⟩
      have S := S.addNil 29 32
      refine s_loopK (α := List (List Nat)) (ks := [none, k18]) (ps := [Rw _ _ _ _ _, Rw _ _ _ _ _]) [] trivial S (fun keep ks ps M f' w' => ∃ u Kk6 Ck6 Kk18 Ck18 b O, f' = upds u ((0, .int .i64 ((b : Nat) : Int)) :: (6, .slice (at_ Kk6) (List.length O) Ck6) :: (7, .slice (at_ Kk18) (M.length) Ck18) :: keep) ∧ (All32 M) ∧ (All32 O) ∧ (M.length ≤ 1000000) ∧ (b < M.length) ∧ (O.length + M.length ≤ 1000000) ∧ (O ++ pathI M b = pathI (L.map mleaf) b0) ∧ St w0 w' [] [Kk6, Kk18] [Rw 29 32 (List.length O) Ck6 (sv O), Rw 29 32 (M.length) Ck18 (sv M)]) (fun M => M.length) (L.map mleaf) (⟨_, _,  _,  _,  _,  b0,  [], upds_eq ⟨rfl, rfl, rfl, trivial⟩, map_leaf_all L, by simp [All32], by rw [List.length_map]; omega, by rw [List.length_map]; omega, by rw [List.length_map]; simpa using hn, by first | omega | rfl | with_reducible assumption | (simp; done) | (simp; omega), S⟩) ?_
      rintro M f w ⟨u, Kk6, Ck6, Kk18, Ck18, b, O, rfl, hM, hO, hm, hb, hol, hp, S⟩
      refine s_seq (s_seq (s_plain ?_))
      refine p_val (e_move (v := .slice _ _ _) rfl) rfl ?_
      refine p_val (e_len rfl Try.underlying24) rfl ?_
      refine p_val (e_gtr rfl rfl) rfl ?_
      refine p_nil (x_then ?_)
      refine s_cond rfl (fun hc21 => ?_) (fun hc21 => ?_)
      · refine s_skip (x_then (s_seq (s_block (s_seq ?_))))
        refine s_cutK (ks := [Kk6, Kk18]) (ps := [Rw _ _ _ _ _, Rw _ _ _ _ _]) [(0, .int _ _), (7, .slice _ _ _)] ⟨rfl, rfl, trivial⟩ S (fun keep ks ps f' w' => ∃ u Kk6 Ck6 m2 xs2 O2, f' = upds u ((6, .slice (at_ Kk6) (m2) Ck6) :: keep) ∧ (m2 = List.length O2) ∧ (xs2 = sv O2) ∧ (O2 = O ++ sib M b) ∧ (O2.length ≤ O.length + 1) ∧ St w0 w' [] [Kk6, Kk18] [Rw 29 32 (m2) Ck6 (xs2), (ps.getD 1 fun _ => True)]) ?_ ?_
        · refine s_seq (s_plain ?_)
          refine p_val (e_move (v := .int _ _) rfl) rfl ?_
          refine p_val (e_xor1 rfl rfl (by omega)) rfl ?_
          rw [xor1_sidx]
          refine p_val (e_assign (v := .int _ _) rfl) rfl ?_
          refine p_nil (x_then (s_seq (s_plain ?_)))
          refine p_val (e_move (v := .int _ _) rfl) rfl ?_
          refine p_val (e_move (v := .slice _ _ _) rfl) rfl ?_
          refine p_val (e_len rfl Try.underlying24) rfl ?_
          refine p_val (e_lss rfl rfl) rfl ?_
          refine p_nil (x_then ?_)
          refine s_cond rfl (fun hc29 => ?_) (fun hc29 => ?_)
          · refine s_plain ?_
            have h0 : (M.getD ((sidx b : Nat) : Int).toNat []).length = 32 := hM.getD (by omega)
            refine p_val (e_move (v := .slice _ _ _) rfl) rfl ?_
            refine p_val (e_move (v := .slice _ _ _) rfl) rfl ?_
            refine p_val (e_move (v := .int _ _) rfl) rfl ?_
            refine p_val (e_ixR (S.rdRw 1 rfl rfl) (by decide) rfl rfl Try.underlying24 sz29 (by omega)) rfl ?_
            refine p_val (e_loadRA rfl ag29 sz29 (by decide) (Rd.sumA (S.rdRw 1 rfl rfl) (by with_reducible assumption) (by omega))) rfl ?_
            refine p_does (d_litS S Try.underlying24 sz29 zv29 rfl (L := [_]) rfl rfl (All32.single h0) (by decide)) rfl ?_
            rintro _ w ⟨b35, rfl, S⟩
            refine p_does (d_append S 1 rfl rfl Try.underlying24 el29 rfl rfl (S.rdRw 0 rfl rfl) (by first | exact bv_one _ | exact sv_one _ | exact iv_one _ | with_reducible assumption | (refine One.mem ?_; repeat (first | exact One.bv _ | exact One.sv _ | exact One.iv _ | exact One.nil | exact One.cat0 | refine One.cat1 ?_ ?_ | refine One.cons rfl ?_ | refine One.append ?_ ?_))) (by first | omega | (simp only [List.length_append, List.length_cons, List.length_nil, bv_length, length_join]; omega) | (simp [cat, length_join]; omega)) (by unfold maxLen; first | omega | (simp only [List.length_append, List.length_cons, List.length_nil, bv_length, length_join]; omega))) rfl ?_
            rintro _ w ⟨k36, c36, rfl, S⟩
            refine p_val (e_assign (v := .slice _ _ _) rfl) rfl ?_
            refine p_nil ?_
            exact x_then ⟨_, rfl, _, _,  _,  _,  _,  O ++ [M.getD ((sidx b : Nat) : Int).toNat []], upds_eq ⟨rfl, rfl, rfl, trivial⟩, by simp, (sv_append _ _).symm, by unfold sib; rw [if_pos (by omega), Int.toNat_natCast], by simp, S.pk [1, 2] rfl⟩
          · refine s_skip ?_
            exact x_then ⟨_, rfl, _, _,  _,  _,  _,  O, upds_eq ⟨rfl, rfl, rfl, trivial⟩, by first | omega | rfl | with_reducible assumption | (simp; done) | (simp; omega), by first | omega | rfl | with_reducible assumption | (simp; done) | (simp; omega), by unfold sib; rw [if_neg (by omega), List.append_nil], by first | omega | rfl | with_reducible assumption | (simp; done) | (simp; omega), S⟩
        · rintro f w ⟨u, Kk6, Ck6, m2, xs2, O2, rfl, rfl, rfl, hO2, hO3, S⟩
          refine x_then (s_plain ?_)
          refine p_val (e_move (v := .int _ _) rfl) rfl ?_
          refine p_val (e_quo64 rfl rfl (by omega)) rfl ?_
          refine p_val (e_assign (v := .int _ _) rfl) rfl ?_
          refine p_nil (x_in (x_then (s_plain ?_)))
          refine p_val (e_move (v := .slice _ _ _) rfl) rfl ?_
          refine p_does (d_call Try.func87 nm87 rfl rfl (mk_up _ _ _ _ (S.rdRw 1 rfl rfl) (by with_reducible assumption) (by omega))) rfl ?_
          rintro _ w ⟨k23, c23, rfl, T⟩
          have S := S.merge T rfl
          refine p_val (e_assign (v := .slice _ _ _) rfl) rfl ?_
          refine p_nil ?_
          refine x_round (upL M) _ rfl ⟨_, _,  _,  _,  _,  b / 2,  O2, upds_eq ⟨rfl, rfl, rfl, trivial⟩, upL_all hM, by rw [hO2]; exact hO.append (sib_all hM b), by rw [upL_length]; omega, by rw [upL_length]; omega, by rw [upL_length]; omega, by rw [hO2, List.append_assoc, ← pathI_up (by omega)]; exact hp, S.pk [1, 0] rfl⟩ (by rw [upL_length]; omega)
      · refine s_exit (x_then_exit (x_then_exit (x_in_same (x_then (s_seq (s_plain ?_))))))
        refine p_val (e_move (v := .slice _ _ _) rfl) rfl ?_
        refine p_val (e_assign (v := .slice _ _ _) rfl) rfl ?_
        refine p_val (e_assign (v := .bool _) rfl) rfl ?_
        refine p_nil (x_then (s_ret ?_))
        exact post2 (v := .slice _ _ _) (x := .bool _) Try.results41 rfl rfl (by have e0 : 0 ≤ (b0 : Int) ∧ (b0 : Int) < (L.length : Int) := by { omega }; have e1 : mpath L (b0 : Int) = O := by { unfold mpath; rw [if_pos e0, Int.toNat_natCast, ← hp, pathI_one (by omega), List.append_nil] }; rw [e1, decide_eq_true e0]; exact ⟨_, _, rfl, S.pk [0] rfl⟩)
end Go.Proofs.Ytdhfiamgmokfbaa
