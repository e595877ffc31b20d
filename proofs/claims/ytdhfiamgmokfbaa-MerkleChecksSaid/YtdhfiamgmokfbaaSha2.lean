/- SHA-256's spread: a block's 64 words. It proves no statement by itself. -/
import Derived.Test.YtdhfiamgmokfbaaSha1
set_option linter.unusedSimpArgs false
set_option linter.unusedVariables false
namespace Go.Proofs.Ytdhfiamgmokfbaa
open Go Go.RowKit E
theorem wrap32_byte (x : Nat) : IntKind.u32.wrap (x : Int) = ((x % 4294967296 : Nat) : Int) := wrap32_nat x
theorem spread_step1 {w0 w : World} {b1 b2 : Nat} {b : List Nat} {i t : Nat} {p : Option Obj → Prop}
    (S : St w0 w [] [some b2, some b1] ([Ex (wv (sp1 b i)).toArray t, p].set 0 (Ex ((wv (sp1 b i)).toArray.setIfInBounds ((i : Int).toNat * 1) (.int .u32 ((or32 (or32 (or32 (shl32 (b.getD (4 * (i : Int)).toNat 0 % 4294967296) 24) (shl32 (b.getD (4 * (i : Int) + 1).toNat 0 % 4294967296) 16)) (shl32 (b.getD (4 * (i : Int) + 2).toNat 0 % 4294967296) 8)) (b.getD (4 * (i : Int) + 3).toNat 0 % 4294967296) : Nat) : Int))) t))) :
    St w0 w [] [some b2, some b1] [Ex (wv (sp1 b (i + 1))).toArray t, p] := by
  rw [wv_set, show ((i : Int).toNat * 1) = i by simp, show (4 * (i : Int)).toNat = 4 * i by omega, show (4 * (i : Int) + 1).toNat = 4 * i + 1 by omega, show (4 * (i : Int) + 2).toNat = 4 * i + 2 by omega, show (4 * (i : Int) + 3).toNat = 4 * i + 3 by omega] at S
  exact S
theorem spread_step2 {w0 w : World} {b1 b2 : Nat} {b : List Nat} {k t : Nat} {p : Option Obj → Prop}
    (S : St w0 w [] [some b2, some b1] ([Ex (wv (sp2 b k)).toArray t, p].set 0 (Ex ((wv (sp2 b k)).toArray.setIfInBounds (((16 + k : Nat) : Int).toNat * 1) (.int .u32 ((add32 (add32 (add32 ((sp2 b k).getD ((((16 + k : Nat) : Int) - 16).toNat * 1) 0) (xor32 (xor32 (rotr 7 ((sp2 b k).getD ((((16 + k : Nat) : Int) - 15).toNat * 1) 0)) (rotr 18 ((sp2 b k).getD ((((16 + k : Nat) : Int) - 15).toNat * 1) 0))) (shr32 ((sp2 b k).getD ((((16 + k : Nat) : Int) - 15).toNat * 1) 0) 3))) ((sp2 b k).getD ((((16 + k : Nat) : Int) - 7).toNat * 1) 0)) (xor32 (xor32 (rotr 17 ((sp2 b k).getD ((((16 + k : Nat) : Int) - 2).toNat * 1) 0)) (rotr 19 ((sp2 b k).getD ((((16 + k : Nat) : Int) - 2).toNat * 1) 0))) (shr32 ((sp2 b k).getD ((((16 + k : Nat) : Int) - 2).toNat * 1) 0) 10)) : Nat) : Int))) t))) :
    St w0 w [] [some b2, some b1] [Ex (wv (sp2 b (k + 1))).toArray t, p] := by
  rw [wv_set, show (((16 + k : Nat) : Int).toNat * 1) = 16 + k by omega, show ((((16 + k : Nat) : Int) - 16).toNat * 1) = 16 + k - 16 by omega, show ((((16 + k : Nat) : Int) - 15).toNat * 1) = 16 + k - 15 by omega, show ((((16 + k : Nat) : Int) - 7).toNat * 1) = 16 + k - 7 by omega, show ((((16 + k : Nat) : Int) - 2).toNat * 1) = 16 + k - 2 by omega] at S
  exact S
set_option maxRecDepth 100000 in
theorem spread_calls (w0 : World) (ad : Addr) (c : Nat) (b : List Nat) (R : Rd w0 1 (some ad) 64 (bv b)) :
    Ret Try.prog 109 [.slice (some ad) 64 c] w0 fun v w' => v = .agg (wv (spread b)).toArray ∧ Below w0.heap.size w0 w' := by
  have hb : b.length = 64 := by simpa using R.1
  refine enter Try.func109 rfl Try.ntmps109 (Nat.le_of_ble_eq_true rfl) ?_
  have S := St.init w0
  refine s_seq (s_plain ?_)
  refine p_does (d_allocA S zv137) rfl ?_
  rintro _ w ⟨b1, rfl, S⟩
  refine p_nil (x_then (s_seq (s_plain ?_)))
  refine p_does (d_allocA S zv137) rfl ?_
  rintro _ w ⟨b2, rfl, S⟩
  refine p_nil (x_then (s_seq (s_seq (s_plain ?_))))
  refine p_val (e_move (v := .int _ _) rfl) rfl ?_
  refine p_nil (x_then (s_block ?_))
  refine s_loop (α := Nat) (fun g f' w' => ∃ u, f' = upds u [(0, .slice (some ad) 64 c), (2, .pointer (some ⟨b1, 0, none⟩)), (3, .pointer (some ⟨b2, 0, none⟩)), (10, .int .i64 (g : Int))] ∧ g ≤ 16 ∧ St w0 w' [] [some b2, some b1] [Ex (wv (sp1 b g)).toArray 137, Ex zl137.toArray 137]) (fun g => 16 - g) (0) (⟨_, upds_eq ⟨rfl, rfl, rfl, rfl, trivial⟩, by omega, S⟩) ?_
  rintro i f w ⟨u, rfl, hi, S⟩
  refine s_seq (s_plain ?_)
  refine p_val (e_lss rfl rfl) rfl ?_
  refine p_nil (x_then (s_seq ?_))
  refine s_cond rfl (fun hc => ?_) (fun hc => ?_)
  · refine s_skip (x_then (s_seq (s_block (s_seq (s_plain ?_)))))
    refine p_val (e_move (v := .int _ _) rfl) rfl ?_
    refine p_val (e_assign (v := .int _ _) rfl) rfl ?_
    refine p_nil (x_then ?_)
    refine s_draw [(true, 0), (true, 1), (true, 2), (true, 3), (true, 4), (true, 5), (true, 6), (true, 7), (true, 8), (true, 9), (true, 10), (true, 11), (true, 12), (true, 13), (true, 14), (true, 15), (true, 16), (true, 17), (true, 18), (true, 19), (true, 20), (true, 21), (true, 22), (true, 23), (true, 24), (true, 25), (true, 26), (true, 27), (true, 28), (true, 29), (true, 30), (true, 31), (true, 32), (true, 33), (true, 34), (false, 35)] (fun w' => St w0 w' [] [] []) mixed (by kernel_rfl) (by repeat (first | exact Calm.post _ _ _ | refine Calm.then ?_ _ | refine Calm.inB ?_ _)) ?_
    have S := S.drew
    have hS := S.tail.tail
    refine q_val (fun w hS => e_move (v := .int _ _) rfl) rfl hS ?_
    refine q_val (fun w hS => e_move (v := .slice _ _ _) rfl) rfl hS ?_
    refine q_val (fun w hS => e_move (v := .int _ _) rfl) rfl hS ?_
    refine q_val (fun w hS => e_mul64 rfl rfl (by omega)) rfl hS ?_
    refine q_val (fun w hS => e_ix_sl rfl rfl Try.underlying33 sz5 (by omega)) rfl hS ?_
    refine q_val (fun w hS => e_load rfl ag5 (hS.rdOld R rfl |>.byte (by omega))) rfl hS ?_
    refine q_val (fun w hS => e_conv_in rfl Try.underlying5 (by simp) Try.underlying133 (wrap32_byte _)) rfl hS ?_
    refine q_val (fun w hS => e_shl32 24 rfl rfl (by decide)) rfl hS ?_
    refine q_val (fun w hS => e_move (v := .slice _ _ _) rfl) rfl hS ?_
    refine q_val (fun w hS => e_move (v := .int _ _) rfl) rfl hS ?_
    refine q_val (fun w hS => e_mul64 rfl rfl (by omega)) rfl hS ?_
    refine q_val (fun w hS => e_add64 rfl rfl (by omega)) rfl hS ?_
    refine q_val (fun w hS => e_ix_sl rfl rfl Try.underlying33 sz5 (by omega)) rfl hS ?_
    refine q_val (fun w hS => e_load rfl ag5 (hS.rdOld R rfl |>.byte (by omega))) rfl hS ?_
    refine q_val (fun w hS => e_conv_in rfl Try.underlying5 (by simp) Try.underlying133 (wrap32_byte _)) rfl hS ?_
    refine q_val (fun w hS => e_shl32 16 rfl rfl (by decide)) rfl hS ?_
    refine q_val (fun w hS => e_or32 rfl rfl) rfl hS ?_
    refine q_val (fun w hS => e_move (v := .slice _ _ _) rfl) rfl hS ?_
    refine q_val (fun w hS => e_move (v := .int _ _) rfl) rfl hS ?_
    refine q_val (fun w hS => e_mul64 rfl rfl (by omega)) rfl hS ?_
    refine q_val (fun w hS => e_add64 rfl rfl (by omega)) rfl hS ?_
    refine q_val (fun w hS => e_ix_sl rfl rfl Try.underlying33 sz5 (by omega)) rfl hS ?_
    refine q_val (fun w hS => e_load rfl ag5 (hS.rdOld R rfl |>.byte (by omega))) rfl hS ?_
    refine q_val (fun w hS => e_conv_in rfl Try.underlying5 (by simp) Try.underlying133 (wrap32_byte _)) rfl hS ?_
    refine q_val (fun w hS => e_shl32 8 rfl rfl (by decide)) rfl hS ?_
    refine q_val (fun w hS => e_or32 rfl rfl) rfl hS ?_
    refine q_val (fun w hS => e_move (v := .slice _ _ _) rfl) rfl hS ?_
    refine q_val (fun w hS => e_move (v := .int _ _) rfl) rfl hS ?_
    refine q_val (fun w hS => e_mul64 rfl rfl (by omega)) rfl hS ?_
    refine q_val (fun w hS => e_add64 rfl rfl (by omega)) rfl hS ?_
    refine q_val (fun w hS => e_ix_sl rfl rfl Try.underlying33 sz5 (by omega)) rfl hS ?_
    refine q_val (fun w hS => e_load rfl ag5 (hS.rdOld R rfl |>.byte (by omega))) rfl hS ?_
    refine q_val (fun w hS => e_conv_in rfl Try.underlying5 (by simp) Try.underlying133 (wrap32_byte _)) rfl hS ?_
    refine q_val (fun w hS => e_or32 rfl rfl) rfl hS ?_
    refine q_val (fun w hS => e_ix_arr rfl rfl Try.underlying137 sz133 (by omega)) rfl hS ?_
    refine q_does (d_store1 (v := .int _ _) S 0 rfl rfl rfl sz133 rfl rfl (by simp [length_sp1]; omega)) rfl ?_
    intro _ w S; refine ⟨S.tail.tail, ?_⟩
    refine q_nil (x_in (x_then (s_plain ?_)))
    refine p_val (e_add64 rfl rfl (by omega)) rfl ?_
    refine p_val (e_move (v := .int _ _) rfl) rfl ?_
    refine p_nil ?_
    refine x_round (i + 1) _ rfl ⟨_, upds_eq ⟨rfl, rfl, rfl, rfl, trivial⟩, by omega, spread_step1 S⟩ (by omega)
  · refine s_exit (x_then_exit (x_then_exit (x_in_same (x_then (s_seq (s_seq (s_plain ?_)))))))
    refine p_val (e_assign (v := .int _ _) rfl) rfl ?_
    refine p_nil (x_then (s_block ?_))
    refine s_loop (α := Nat) (fun g f' w' => ∃ u, f' = upds u [(0, .slice (some ad) 64 c), (2, .pointer (some ⟨b1, 0, none⟩)), (3, .pointer (some ⟨b2, 0, none⟩)), (5, .int .i64 ((16 + g : Nat) : Int))] ∧ g ≤ 48 ∧ St w0 w' [] [some b2, some b1] [Ex (wv (sp2 b g)).toArray 137, Ex zl137.toArray 137]) (fun g => 48 - g) (0) (⟨_, upds_eq ⟨rfl, rfl, rfl, rfl, trivial⟩, by omega, by obtain rfl : i = 16 := (by omega); exact S⟩) ?_
    rintro k f w ⟨u, rfl, hk, S⟩
    refine s_seq (s_seq (s_plain ?_))
    refine p_val (e_move (v := .int _ _) rfl) rfl ?_
    refine p_val (e_lss rfl rfl) rfl ?_
    refine p_nil (x_then ?_)
    refine s_cond rfl (fun hc => ?_) (fun hc => ?_)
    · refine s_skip (x_then (s_seq (s_block (s_seq ?_))))
      refine s_draw [(true, 0), (true, 1), (true, 2), (true, 3), (true, 4), (true, 5), (true, 6), (true, 7), (true, 8), (true, 9)] (fun w' => St w0 w' [] [some b2, some b1] [Ex (wv (sp2 b k)).toArray 137, Ex zl137.toArray 137]) mixed (by kernel_rfl) (by repeat (first | exact Calm.post _ _ _ | refine Calm.then ?_ _ | refine Calm.inB ?_ _)) ?_
      have S := S.drew
      have hS := S
      refine q_val (fun w hS => e_move (v := .int _ _) rfl) rfl hS ?_
      refine q_val (fun w hS => e_sub64 rfl rfl (by omega)) rfl hS ?_
      refine q_val (fun w hS => e_ix_arr rfl rfl Try.underlying137 sz133 (by omega)) rfl hS ?_
      refine q_val (fun w hS => e_load rfl ag133 ((hS.cell 0 rfl rfl _).trans (wv_getA (by rw [length_sp2]; omega)))) rfl hS ?_
      refine q_val (fun w hS => e_move (v := .int _ _) rfl) rfl hS ?_
      refine q_val (fun w hS => e_sub64 rfl rfl (by omega)) rfl hS ?_
      refine q_val (fun w hS => e_ix_arr rfl rfl Try.underlying137 sz133 (by omega)) rfl hS ?_
      refine q_val (fun w hS => e_load rfl ag133 ((hS.cell 0 rfl rfl _).trans (wv_getA (by rw [length_sp2]; omega)))) rfl hS ?_
      refine q_val (fun w hS => e_assign (v := .int _ _) rfl) rfl hS ?_
      refine q_val (fun w hS => e_assign (v := .int _ _) rfl) rfl hS ?_
      refine q_nil (x_then (s_seq (s_plain ?_)))
      refine p_val (e_move (v := .int _ _) rfl) rfl ?_
      refine p_does (d_call Try.func110 nm110 rfl rfl (rot_any _ 25 (-7) _ (by decide) (by decide))) rfl ?_
      rintro _ _ ⟨rfl, rfl⟩
      refine p_val (e_move (v := .int _ _) rfl) rfl ?_
      refine p_does (d_call Try.func110 nm110 rfl rfl (rot_any _ 14 (-18) _ (by decide) (by decide))) rfl ?_
      rintro _ _ ⟨rfl, rfl⟩
      refine p_val (e_xor32 rfl rfl) rfl ?_
      refine p_val (e_move (v := .int _ _) rfl) rfl ?_
      refine p_val (e_shr32 3 rfl rfl (by decide)) rfl ?_
      refine p_val (e_xor32 rfl rfl) rfl ?_
      refine p_val (e_assign (v := .int _ _) rfl) rfl ?_
      refine p_nil (x_then (s_seq (s_plain ?_)))
      refine p_val (e_move (v := .int _ _) rfl) rfl ?_
      refine p_does (d_call Try.func110 nm110 rfl rfl (rot_any _ 15 (-17) _ (by decide) (by decide))) rfl ?_
      rintro _ _ ⟨rfl, rfl⟩
      refine p_val (e_move (v := .int _ _) rfl) rfl ?_
      refine p_does (d_call Try.func110 nm110 rfl rfl (rot_any _ 13 (-19) _ (by decide) (by decide))) rfl ?_
      rintro _ _ ⟨rfl, rfl⟩
      refine p_val (e_xor32 rfl rfl) rfl ?_
      refine p_val (e_move (v := .int _ _) rfl) rfl ?_
      refine p_val (e_shr32 10 rfl rfl (by decide)) rfl ?_
      refine p_val (e_xor32 rfl rfl) rfl ?_
      refine p_val (e_assign (v := .int _ _) rfl) rfl ?_
      refine p_nil (x_then ?_)
      refine s_draw [(true, 0), (true, 1), (true, 2), (true, 3), (true, 4), (true, 5), (true, 6), (true, 7), (true, 8), (true, 9), (true, 10), (true, 11), (true, 12), (true, 13), (true, 14), (false, 15)] (fun w' => ∀ j, j < 16 + k → w'.cell? ((⟨b2, 0, none⟩ : Addr).add j) = some (.int .u32 ((sp2 b k).getD j 0 : Int))) mixed (by kernel_rfl) (by repeat (first | exact Calm.post _ _ _ | refine Calm.then ?_ _ | refine Calm.inB ?_ _)) ?_
      have S := S.drew
      have hS := fun j (hj : j < 16 + k) => (S.cell 0 rfl rfl j).trans (wv_getA (by rw [length_sp2]; omega))
      refine q_val (fun w hS => e_move (v := .int _ _) rfl) rfl hS ?_
      refine q_val (fun w hS => e_move (v := .int _ _) rfl) rfl hS ?_
      refine q_val (fun w hS => e_sub64 rfl rfl (by omega)) rfl hS ?_
      refine q_val (fun w hS => e_ix_arr rfl rfl Try.underlying137 sz133 (by omega)) rfl hS ?_
      refine q_val (fun w hS => e_load rfl ag133 (hS _ (by omega))) rfl hS ?_
      refine q_val (fun w hS => e_move (v := .int _ _) rfl) rfl hS ?_
      refine q_val (fun w hS => e_add32 rfl rfl) rfl hS ?_
      refine q_val (fun w hS => e_move (v := .int _ _) rfl) rfl hS ?_
      refine q_val (fun w hS => e_sub64 rfl rfl (by omega)) rfl hS ?_
      refine q_val (fun w hS => e_ix_arr rfl rfl Try.underlying137 sz133 (by omega)) rfl hS ?_
      refine q_val (fun w hS => e_load rfl ag133 (hS _ (by omega))) rfl hS ?_
      refine q_val (fun w hS => e_add32 rfl rfl) rfl hS ?_
      refine q_val (fun w hS => e_move (v := .int _ _) rfl) rfl hS ?_
      refine q_val (fun w hS => e_add32 rfl rfl) rfl hS ?_
      refine q_val (fun w hS => e_ix_arr rfl rfl Try.underlying137 sz133 (by omega)) rfl hS ?_
      refine q_does (d_store1 (v := .int _ _) S 0 rfl rfl rfl sz133 rfl rfl (by simp [length_sp2]; omega)) rfl ?_
      intro _ w S; refine ⟨fun j hj => (S.cell 0 rfl rfl j).trans (by rw [Array.getElem?_setIfInBounds_ne (by omega)]; exact wv_getA (by rw [length_sp2]; omega)), ?_⟩
      refine q_nil (x_in (x_then (s_plain ?_)))
      refine p_val (e_move (v := .int _ _) rfl) rfl ?_
      refine p_val (e_add64 rfl rfl (by omega)) rfl ?_
      refine p_val (e_assign (v := .int _ _) rfl) rfl ?_
      refine p_nil ?_
      refine x_round (k + 1) _ rfl ⟨_, upds_eq ⟨rfl, rfl, rfl, rfl, trivial⟩, by omega, spread_step2 S⟩ (by omega)
    · refine s_exit (x_then_exit (x_then_exit (x_in_same (x_then (s_seq (s_plain ?_))))))
      obtain rfl : k = 48 := by omega
      refine p_val (e_loadN (cs := wv (sp2 b 48)) rfl ag137 sz137 (by simp [length_sp2]) (fun j u hu => (S.cell 0 rfl rfl _).trans (by simpa using hu))) rfl ?_
      refine p_does (d_storeW S 1 rfl rfl (wv_one _) sz137 (by simp [length_sp2]) rfl rfl (by rfl)) rfl ?_
      intro _ w S
      refine p_nil (x_then (s_ret ?_))
      exact postC Try.results109 S 1 rfl rfl rfl ag137 sz137 (by simp [length_sp2]) ⟨rfl, S.to_below⟩
end Go.Proofs.Ytdhfiamgmokfbaa
