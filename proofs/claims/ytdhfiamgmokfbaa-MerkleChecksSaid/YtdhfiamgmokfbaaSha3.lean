/- SHA-256's beginnings, constants and rounds. It proves no statement by itself. -/
import Derived.Test.YtdhfiamgmokfbaaSha2
set_option linter.unusedSimpArgs false
set_option linter.unusedVariables false
set_option maxRecDepth 100000
set_option maxHeartbeats 1000000
namespace Go.Proofs.Ytdhfiamgmokfbaa
open Go Go.RowKit E
theorem rounds_calls (w0 : World) : Ret Try.prog 98 [] w0 fun v w' => v = .agg (wv K).toArray ∧ Below w0.heap.size w0 w' := by
  refine enter Try.func98 rfl Try.ntmps98 (Nat.le_of_ble_eq_true rfl) ?_
  have S := St.init w0
  refine s_seq (s_plain ?_)
  refine p_does (d_allocA S zv137) rfl ?_
  rintro _ w ⟨b1, rfl, S⟩
  refine p_nil (x_then (s_seq (s_plain ?_)))
  refine p_val (e_build (cs := wv K) (by kernel_rfl)) rfl ?_
  refine p_does (d_storeW S 0 rfl rfl (wv_one _) sz137 (by rfl) rfl rfl (by rfl)) rfl ?_
  intro _ w S
  refine p_nil (x_then (s_ret ?_))
  exact postC Try.results98 S 0 rfl rfl rfl ag137 sz137 (by rfl) ⟨rfl, S.to_below⟩
theorem first_calls (w0 : World) : Ret Try.prog 97 [] w0 fun v w' => v = .agg (wv (s8 first)).toArray ∧ Below w0.heap.size w0 w' := by
  refine enter Try.func97 rfl Try.ntmps97 (Nat.le_of_ble_eq_true rfl) ?_
  have S := St.init w0
  refine s_seq (s_plain ?_)
  refine p_does (d_allocA S zv135) rfl ?_
  rintro _ w ⟨b1, rfl, S⟩
  refine p_nil (x_then (s_seq (s_plain ?_)))
  refine p_val (e_build (cs := wv (s8 first)) (by kernel_rfl)) rfl ?_
  refine p_does (d_storeW S 0 rfl rfl (wv_one _) sz135 (by rfl) rfl rfl (by rfl)) rfl ?_
  intro _ w S
  refine p_nil (x_then (s_ret ?_))
  exact postC Try.results97 S 0 rfl rfl rfl ag135 sz135 (by rfl) ⟨rfl, S.to_below⟩
theorem block_calls (w0 : World) (hp kb : Nat) (ad : Addr) (c : Nat) (h : St8) (b : List Nat) (fr : Nat × Nat) (hh : w0.heap[hp]? = some (.cells (wv (s8 h)).toArray 135 (0, 0))) (hk : w0.heap[kb]? = some (.cells (wv K).toArray 137 fr)) (hne : kb ≠ hp) (R : Rd w0 1 (some ad) 64 (bv b)) :
    Ret Try.prog 100 [.pointer (some ⟨hp, 0, none⟩), .slice (some ad) 64 c, .pointer (some ⟨kb, 0, none⟩)] w0 fun v w' => St w0 w' [hp] [some hp] [Ex (wv (s8 (block h b))).toArray 135] := by
  refine enter Try.func100 rfl Try.ntmps100 (Nat.le_of_ble_eq_true rfl) ?_
  have S := St.init1 (Ex (wv (s8 h)).toArray 135) hh rfl
  refine s_seq (s_plain ?_)
  refine p_val (e_move (v := .slice _ _ _) rfl) rfl ?_
  refine p_does (d_call Try.func109 nm109 rfl rfl (spread_calls w0 ad c b R)) rfl ?_
  rintro _ w ⟨rfl, hB⟩
  have S := S.below hB
  obtain ⟨ws, hW⟩ : ∃ ws, ws = spread b := ⟨_, rfl⟩
  have hws : ws.length = 64 := by rw [hW, length_spread]
  rw [← hW]
  refine p_does (d_allocA S zv137) rfl ?_
  rintro _ w ⟨b1, rfl, S⟩
  refine p_does (d_storeW S 0 rfl rfl (wv_one _) sz137 (by simp only [List.size_toArray, wv_length, hws]) rfl rfl (by rfl)) rfl ?_
  intro _ w S
  refine p_nil (x_then (s_seq (s_plain ?_)))
  refine p_val (e_move (v := .pointer _) rfl) rfl ?_
  refine p_val (e_nil rfl rfl) rfl ?_
  refine p_val (e_loadN (cs := wv (s8 h)) rfl ag135 sz135 (by rfl) (fun j u hu => (S.cell 1 rfl rfl _).trans (by simpa using hu))) rfl ?_
  refine p_does (d_allocA S zv135) rfl ?_
  rintro _ w ⟨b2, rfl, S⟩
  refine p_does (d_storeW S 0 rfl rfl (wv_one _) sz135 (by rfl) rfl rfl (by rfl)) rfl ?_
  intro _ w S
  refine p_nil (x_then (s_seq (s_seq (s_plain ?_))))
  refine p_val (e_move (v := .int _ _) rfl) rfl ?_
  refine p_nil (x_then (s_block ?_))
  refine s_loop (α := Nat) (fun g f' w' => ∃ u v, f' = upds u [(0, .pointer (some ⟨hp, 0, none⟩)), (2, .pointer (some ⟨kb, 0, none⟩)), (6, .pointer (some ⟨b1, 0, none⟩)), (7, .pointer (some ⟨b2, 0, none⟩)), (20, .int .i64 (g : Int))] ∧ g ≤ 64 ∧ v = rounds ws h g ∧ St w0 w' [hp] [some b2, some b1, some hp] [Ex (wv (s8 v)).toArray 135, Ex (wv ws).toArray 137, Ex (wv (s8 h)).toArray 135]) (fun g => 64 - g) (0) (⟨_, _, upds_eq ⟨rfl, rfl, rfl, rfl, rfl, trivial⟩, by omega, rfl, S⟩) ?_
  rintro i f w ⟨u, v, rfl, hi, hv, S⟩
  refine s_seq (s_plain ?_)
  refine p_val (e_lss rfl rfl) rfl ?_
  refine p_nil (x_then (s_seq ?_))
  refine s_cond rfl (fun hc => ?_) (fun hc => ?_)
  · refine s_skip (x_then (s_seq (s_block (s_seq (s_plain ?_)))))
    refine p_val (e_move (v := .int _ _) rfl) rfl ?_
    refine p_val (e_assign (v := .int _ _) rfl) rfl ?_
    refine p_nil (x_then (s_seq (s_plain ?_)))
    refine p_val (e_ix_arr rfl rfl Try.underlying135 sz133 (by omega)) rfl ?_
    refine p_val (e_load rfl ag133 ((S.cell 0 rfl rfl _).trans (rfl))) rfl ?_
    refine p_val (e_assign (v := .int _ _) rfl) rfl ?_
    refine p_nil (x_then (s_seq (s_plain ?_)))
    refine p_val (e_move (v := .int _ _) rfl) rfl ?_
    refine p_does (d_call Try.func110 nm110 rfl rfl (rot_any _ 26 (-6) _ (by decide) (by decide))) rfl ?_
    rintro _ _ ⟨rfl, rfl⟩
    refine p_val (e_move (v := .int _ _) rfl) rfl ?_
    refine p_does (d_call Try.func110 nm110 rfl rfl (rot_any _ 21 (-11) _ (by decide) (by decide))) rfl ?_
    rintro _ _ ⟨rfl, rfl⟩
    refine p_val (e_xor32 rfl rfl) rfl ?_
    refine p_val (e_move (v := .int _ _) rfl) rfl ?_
    refine p_does (d_call Try.func110 nm110 rfl rfl (rot_any _ 7 (-25) _ (by decide) (by decide))) rfl ?_
    rintro _ _ ⟨rfl, rfl⟩
    refine p_val (e_xor32 rfl rfl) rfl ?_
    refine p_val (e_assign (v := .int _ _) rfl) rfl ?_
    refine p_nil (x_then (s_seq ?_))
    refine s_draw [(true, 0), (true, 1), (true, 2), (true, 3), (true, 4), (true, 5), (true, 6), (true, 7), (true, 8), (true, 9), (true, 10), (true, 11), (true, 12), (true, 13), (true, 14), (true, 15), (true, 16), (true, 17), (true, 18), (true, 19), (true, 20), (true, 21), (true, 22), (true, 23), (true, 24), (true, 25)] (fun w' => St w0 w' [hp] [some b2, some b1, some hp] [Ex (wv (s8 v)).toArray 135, Ex (wv ws).toArray 137, Ex (wv (s8 h)).toArray 135]) mixed (by kernel_rfl) (by repeat (first | exact Calm.post _ _ _ | refine Calm.then ?_ _ | refine Calm.inB ?_ _)) ?_
    have S := S.drew
    have hS := S
    refine q_val (fun w hS => e_ix_arr rfl rfl Try.underlying135 sz133 (by omega)) rfl hS ?_
    refine q_val (fun w hS => e_load rfl ag133 ((hS.cell 0 rfl rfl _).trans (rfl))) rfl hS ?_
    refine q_val (fun w hS => e_move (v := .int _ _) rfl) rfl hS ?_
    refine q_val (fun w hS => e_add32 rfl rfl) rfl hS ?_
    refine q_val (fun w hS => e_move (v := .int _ _) rfl) rfl hS ?_
    refine q_val (fun w hS => e_ix_arr rfl rfl Try.underlying135 sz133 (by omega)) rfl hS ?_
    refine q_val (fun w hS => e_load rfl ag133 ((hS.cell 0 rfl rfl _).trans (rfl))) rfl hS ?_
    refine q_val (fun w hS => e_and32 rfl rfl) rfl hS ?_
    refine q_val (fun w hS => e_move (v := .int _ _) rfl) rfl hS ?_
    refine q_val (fun w hS => e_not32 rfl) rfl hS ?_
    refine q_val (fun w hS => e_ix_arr rfl rfl Try.underlying135 sz133 (by omega)) rfl hS ?_
    refine q_val (fun w hS => e_load rfl ag133 ((hS.cell 0 rfl rfl _).trans (rfl))) rfl hS ?_
    refine q_val (fun w hS => e_and32 rfl rfl) rfl hS ?_
    refine q_val (fun w hS => e_xor32 rfl rfl) rfl hS ?_
    refine q_val (fun w hS => e_add32 rfl rfl) rfl hS ?_
    refine q_val (fun w hS => e_move (v := .pointer _) rfl) rfl hS ?_
    refine q_val (fun w hS => e_move (v := .int _ _) rfl) rfl hS ?_
    refine q_val (fun w hS => e_nil rfl rfl) rfl hS ?_
    refine q_val (fun w hS => e_ix_arr rfl rfl Try.underlying137 sz133 (by omega)) rfl hS ?_
    refine q_val (fun w hS => e_load rfl ag133 ((hS.oldCell hk (by simpa using hne) _).trans (wv_getA (by simp only [K, List.length_cons, List.length_nil]; omega)))) rfl hS ?_
    refine q_val (fun w hS => e_add32 rfl rfl) rfl hS ?_
    refine q_val (fun w hS => e_move (v := .int _ _) rfl) rfl hS ?_
    refine q_val (fun w hS => e_ix_arr rfl rfl Try.underlying137 sz133 (by omega)) rfl hS ?_
    refine q_val (fun w hS => e_load rfl ag133 ((hS.cell 1 rfl rfl _).trans (wv_getA (by rw [hws]; omega)))) rfl hS ?_
    refine q_val (fun w hS => e_add32 rfl rfl) rfl hS ?_
    refine q_val (fun w hS => e_assign (v := .int _ _) rfl) rfl hS ?_
    refine q_nil (x_then (s_seq (s_plain ?_)))
    refine p_val (e_ix_arr rfl rfl Try.underlying135 sz133 (by omega)) rfl ?_
    refine p_val (e_load rfl ag133 ((S.cell 0 rfl rfl _).trans (rfl))) rfl ?_
    refine p_val (e_assign (v := .int _ _) rfl) rfl ?_
    refine p_nil (x_then (s_seq (s_plain ?_)))
    refine p_val (e_move (v := .int _ _) rfl) rfl ?_
    refine p_does (d_call Try.func110 nm110 rfl rfl (rot_any _ 30 (-2) _ (by decide) (by decide))) rfl ?_
    rintro _ _ ⟨rfl, rfl⟩
    refine p_val (e_move (v := .int _ _) rfl) rfl ?_
    refine p_does (d_call Try.func110 nm110 rfl rfl (rot_any _ 19 (-13) _ (by decide) (by decide))) rfl ?_
    rintro _ _ ⟨rfl, rfl⟩
    refine p_val (e_xor32 rfl rfl) rfl ?_
    refine p_val (e_move (v := .int _ _) rfl) rfl ?_
    refine p_does (d_call Try.func110 nm110 rfl rfl (rot_any _ 10 (-22) _ (by decide) (by decide))) rfl ?_
    rintro _ _ ⟨rfl, rfl⟩
    refine p_val (e_xor32 rfl rfl) rfl ?_
    refine p_val (e_assign (v := .int _ _) rfl) rfl ?_
    refine p_nil (x_then (s_seq (s_plain ?_)))
    refine p_val (e_move (v := .int _ _) rfl) rfl ?_
    refine p_val (e_move (v := .int _ _) rfl) rfl ?_
    refine p_val (e_ix_arr rfl rfl Try.underlying135 sz133 (by omega)) rfl ?_
    refine p_val (e_load rfl ag133 ((S.cell 0 rfl rfl _).trans (rfl))) rfl ?_
    refine p_val (e_and32 rfl rfl) rfl ?_
    refine p_val (e_move (v := .int _ _) rfl) rfl ?_
    refine p_val (e_ix_arr rfl rfl Try.underlying135 sz133 (by omega)) rfl ?_
    refine p_val (e_load rfl ag133 ((S.cell 0 rfl rfl _).trans (rfl))) rfl ?_
    refine p_val (e_and32 rfl rfl) rfl ?_
    refine p_val (e_xor32 rfl rfl) rfl ?_
    refine p_val (e_ix_arr rfl rfl Try.underlying135 sz133 (by omega)) rfl ?_
    refine p_val (e_load rfl ag133 ((S.cell 0 rfl rfl _).trans (rfl))) rfl ?_
    refine p_val (e_ix_arr rfl rfl Try.underlying135 sz133 (by omega)) rfl ?_
    refine p_val (e_load rfl ag133 ((S.cell 0 rfl rfl _).trans (rfl))) rfl ?_
    refine p_val (e_and32 rfl rfl) rfl ?_
    refine p_val (e_xor32 rfl rfl) rfl ?_
    refine p_val (e_add32 rfl rfl) rfl ?_
    refine p_val (e_assign (v := .int _ _) rfl) rfl ?_
    refine p_nil (x_then (s_seq ?_))
    refine s_draw [(true, 0), (true, 1), (false, 2)] (fun w' => St w0 w' [hp] [] []) mixed (by kernel_rfl) (by repeat (first | exact Calm.post _ _ _ | refine Calm.then ?_ _ | refine Calm.inB ?_ _)) ?_
    have S := S.drew
    have hS := S.none_
    refine q_val (fun w hS => e_sl_arr_l 1 rfl rfl rfl (by decide) Try.underlying135 sz133) rfl hS ?_
    refine q_val (fun w hS => e_sl_arr_h 7 rfl rfl rfl (by decide) Try.underlying135 sz133) rfl hS ?_
    refine q_does (d_copy S 0 rfl rfl Try.underlying162 (by kernel_rfl) rfl rfl ((S.rdEx 0 rfl rfl (n := 8) rfl).take (m := 7) (by decide)) ((by intro u hu; exact wv_one _ u (by simpa using List.mem_of_mem_take hu))) (by exact Nat.le_of_ble_eq_true rfl)) rfl ?_
    rintro _ w ⟨rfl, S⟩; refine ⟨S.none_, ?_⟩
    refine q_nil (x_then (s_seq (s_plain ?_)))
    refine p_val (e_ix_arr rfl rfl Try.underlying135 sz133 (by omega)) rfl ?_
    refine p_val (e_load rfl ag133 ((S.cell 0 rfl rfl _).trans (rfl))) rfl ?_
    refine p_val (e_move (v := .int _ _) rfl) rfl ?_
    refine p_val (e_add32 rfl rfl) rfl ?_
    refine p_val (e_ix_arr rfl rfl Try.underlying135 sz133 (by omega)) rfl ?_
    refine p_does (d_store1 (v := .int _ _) S 0 rfl rfl rfl sz133 rfl rfl (by exact Nat.le_of_ble_eq_true rfl)) rfl ?_
    intro _ w S
    refine p_nil (x_then (s_plain ?_))
    refine p_val (e_move (v := .int _ _) rfl) rfl ?_
    refine p_val (e_move (v := .int _ _) rfl) rfl ?_
    refine p_val (e_add32 rfl rfl) rfl ?_
    refine p_val (e_ix_arr rfl rfl Try.underlying135 sz133 (by omega)) rfl ?_
    refine p_does (d_store1 (v := .int _ _) S 0 rfl rfl rfl sz133 rfl rfl (by exact Nat.le_of_ble_eq_true rfl)) rfl ?_
    intro _ w S
    refine p_nil (x_in (x_then (s_plain ?_)))
    refine p_val (e_add64 rfl rfl (by omega)) rfl ?_
    refine p_val (e_move (v := .int _ _) rfl) rfl ?_
    refine p_nil ?_
    refine x_round (i + 1) _ rfl ⟨_, rnd v (K.getD i 0) (ws.getD i 0), upds_eq ⟨rfl, rfl, rfl, rfl, rfl, trivial⟩, by omega, by rw [hv]; rfl, by simp only [Int.toNat_natCast, Nat.mul_one] at S; exact S⟩ (by omega)
  · refine s_exit (x_then_exit (x_then_exit (x_in_same (x_then (s_seq (s_plain ?_))))))
    refine p_val (e_move (v := .int _ _) rfl) rfl ?_
    refine p_nil (x_then (s_block ?_))
    refine s_loop (α := Nat) (fun g f' w' => ∃ u l, f' = upds u [(0, .pointer (some ⟨hp, 0, none⟩)), (7, .pointer (some ⟨b2, 0, none⟩)), (98, .int .i64 (g : Int))] ∧ g ≤ 8 ∧ l = addTo (s8 h) (s8 v) g ∧ St w0 w' [hp] [some b2, some b1, some hp] [Ex (wv (s8 v)).toArray 135, Ex (wv ws).toArray 137, Ex (wv l).toArray 135]) (fun g => 8 - g) (0) (⟨_, s8 h, upds_eq ⟨rfl, rfl, rfl, trivial⟩, by omega, rfl, S⟩) ?_
    rintro k f w ⟨u, l, rfl, hk, hl, S⟩
    refine s_seq (s_plain ?_)
    refine p_val (e_lss rfl rfl) rfl ?_
    refine p_nil (x_then (s_seq ?_))
    refine s_cond rfl (fun hc => ?_) (fun hc => ?_)
    · refine s_skip (x_then (s_seq (s_block (s_seq (s_plain ?_)))))
      refine p_val (e_move (v := .int _ _) rfl) rfl ?_
      refine p_val (e_assign (v := .int _ _) rfl) rfl ?_
      refine p_nil (x_then ?_)
      refine s_draw [(true, 0), (true, 1), (true, 2), (true, 3), (true, 5), (true, 6), (true, 7), (true, 9), (false, 4), (true, 8), (true, 10), (false, 11)] (fun w' => St w0 w' [hp] [some b2] [Ex (wv (s8 v)).toArray 135]) mixed (by kernel_rfl) (by repeat (first | exact Calm.post _ _ _ | refine Calm.then ?_ _ | refine Calm.inB ?_ _)) ?_
      have S := S.drew
      have hS := S.head
      refine q_val (fun w hS => e_move (v := .pointer _) rfl) rfl hS ?_
      refine q_val (fun w hS => e_move (v := .int _ _) rfl) rfl hS ?_
      refine q_val (fun w hS => e_nil rfl rfl) rfl hS ?_
      refine q_val (fun w hS => e_ix_arr rfl rfl Try.underlying135 sz133 (by omega)) rfl hS ?_
      refine q_val (fun w hS => e_move (v := .int _ _) rfl) rfl hS ?_
      refine q_val (fun w hS => e_ix_arr rfl rfl Try.underlying135 sz133 (by omega)) rfl hS ?_
      refine q_val (fun w hS => e_load rfl ag133 ((hS.cell 0 rfl rfl _).trans (wv_getA (by simp only [s8, List.length_cons, List.length_nil]; omega)))) rfl hS ?_
      refine q_val (fun w hS => e_nil rfl rfl) rfl hS ?_
      refine q_eff (e_load rfl ag133 ((S.cell 2 rfl rfl _).trans (wv_getA (by rw [hl, length_addTo]; simp only [s8, List.length_cons, List.length_nil]; omega)))) rfl hS ?_
      refine q_val (fun w hS => e_add32 rfl rfl) rfl hS ?_
      refine q_val (fun w hS => e_ix_arr rfl rfl Try.underlying135 sz133 (by omega)) rfl hS ?_
      refine q_does (d_store1 (v := .int _ _) S 2 rfl rfl rfl sz133 rfl rfl (by simp only [List.size_toArray, wv_length, hl, length_addTo, s8, List.length_cons, List.length_nil]; omega)) rfl ?_
      intro _ w S; refine ⟨S.head, ?_⟩
      refine q_nil (x_in (x_then (s_plain ?_)))
      refine p_val (e_add64 rfl rfl (by omega)) rfl ?_
      refine p_val (e_move (v := .int _ _) rfl) rfl ?_
      refine p_nil ?_
      refine x_round (k + 1) _ rfl ⟨_, l.set k (add32 (l.getD k 0) ((s8 v).getD k 0)), upds_eq ⟨rfl, rfl, rfl, trivial⟩, by omega, by rw [hl]; rfl, by simp only [wv_set, Int.toNat_natCast, Nat.mul_one] at S; exact S⟩ (by omega)
    · refine s_exit (x_then_exit (x_then_exit (x_in_same (post_end ?_))))
      exact post0 Try.results100 (by obtain rfl : k = 8 := (by omega); obtain rfl : i = 64 := (by omega); rw [hl, addTo_8, hv, hW] at S; exact S.tail.tail)
end Go.Proofs.Ytdhfiamgmokfbaa
