/- SHA-256's sums. It proves no statement by itself. -/
import Derived.Test.YtdhfiamgmokfbaaSha4
import Derived.Test.YtdhfiamgmokfbaaBv
set_option linter.unusedSimpArgs false
set_option linter.unusedVariables false
set_option maxRecDepth 100000
set_option maxHeartbeats 1000000
namespace Go.Proofs.Ytdhfiamgmokfbaa
open Go Go.RowKit E
theorem wv_getL {l : List Nat} {i : Nat} (h : i < l.length) : (wv l)[i]? = some (.int .u32 (l.getD i 0 : Int)) := wv_get h
theorem outB_step {a : Array Value} (h : List Nat) (g : Nat) (e : a = (bv (outB h g)).toArray) (x0 x1 x2 x3 : Nat) (i0 i1 i2 i3 : Nat) (h0 : i0 = 4 * g) (h1 : i1 = 4 * g + 1) (h2 : i2 = 4 * g + 2) (h3 : i3 = 4 * g + 3)
    (e0 : x0 = shr32 (h.getD g 0) 24 % 256) (e1 : x1 = shr32 (h.getD g 0) 16 % 256) (e2 : x2 = shr32 (h.getD g 0) 8 % 256) (e3 : x3 = h.getD g 0 % 256) :
    (((a.setIfInBounds i0 (.int .u8 (x0 : Int))).setIfInBounds i1 (.int .u8 (x1 : Int))).setIfInBounds i2 (.int .u8 (x2 : Int))).setIfInBounds i3 (.int .u8 (x3 : Int)) = (bv (outB h (g + 1))).toArray := by
  subst e h0 h1 h2 h3 e0 e1 e2 e3
  simp only [bv_set]
  rfl
theorem of_calls (w0 : World) (A : Option Addr) (c0 : Nat) (l : List Nat) (R : Rd w0 1 A l.length (bv l)) (hl : l.length ≤ 1099511627776) :
    Ret Try.prog 80 [.slice A l.length c0] w0 fun v w' => v = .agg (bv (sumOf l)).toArray ∧ Below w0.heap.size w0 w' := by
  have hp64 : (pad l).length % 64 = 0 := by rw [length_pad]; unfold padZ; omega
  refine enter Try.func80 rfl Try.ntmps80 (Nat.le_of_ble_eq_true rfl) ?_
  have S := St.init w0
  refine s_seq (s_plain ?_)
  refine p_does (d_allocA S zv29) rfl ?_
  rintro _ w ⟨b1, rfl, S⟩
  refine p_nil (x_then (s_seq (s_plain ?_)))
  refine p_does (d_call Try.func97 nm97 rfl rfl (first_calls _)) rfl ?_
  rintro _ w ⟨rfl, hB⟩
  have S := S.below hB
  refine p_does (d_call Try.func98 nm98 rfl rfl (rounds_calls _)) rfl ?_
  rintro _ w ⟨rfl, hB⟩
  have S := S.below hB
  refine p_does (d_allocA S zv135) rfl ?_
  rintro _ w ⟨b2, rfl, S⟩
  refine p_does (d_allocA S zv137) rfl ?_
  rintro _ w ⟨b3, rfl, S⟩
  refine p_does (d_storeW S 1 rfl rfl (wv_one _) sz135 (by rfl) rfl rfl (by rfl)) rfl ?_
  intro _ w S
  refine p_does (d_storeW S 0 rfl rfl (wv_one _) sz137 (by rfl) rfl rfl (by rfl)) rfl ?_
  intro _ w S
  refine p_nil (x_then (s_seq (s_seq (s_plain ?_))))
  refine p_val (e_move (v := .slice _ _ _) rfl) rfl ?_
  refine p_does (d_call Try.func99 nm99 rfl rfl (padded_calls _ A c0 l (S.rdOld R rfl) hl)) rfl ?_
  rintro _ w ⟨pk, pc, rfl, T⟩
  have S := S.merge T rfl
  refine p_val (e_assign (v := .slice _ _ _) rfl) rfl ?_
  refine p_nil (x_then (s_block ?_))
  refine s_loop (α := Nat) (fun g f' w' => ∃ u A' c m, f' = upds u [(2, .pointer (some ⟨b1, 0, none⟩)), (3, .pointer (some ⟨b2, 0, none⟩)), (4, .pointer (some ⟨b3, 0, none⟩)), (5, .slice A' m c)] ∧ 64 * g + m = (pad l).length ∧ m ≤ c ∧ (∀ ad, A' = some ad → ad.block ≠ b2) ∧ Rd w' 1 A' m (bv ((pad l).drop (64 * g))) ∧ St w0 w' [] [some b3, some b2, some b1] [Ex (wv K).toArray 137, Ex (wv (s8 (hashes (pad l) g))).toArray 135, Ex zl29.toArray 29]) (fun g => (pad l).length - 64 * g) (0) (⟨_, _, _, _, upds_eq ⟨rfl, rfl, rfl, rfl, trivial⟩, by omega, S.capRw 0 rfl rfl, S.at_ne 0 2 rfl rfl (by decide), S.rdRw 0 rfl rfl, S.tail⟩) ?_
  rintro g0 f w ⟨u, A', c, m, rfl, hm, hc', hA, hR, S⟩
  refine s_seq (s_seq (s_plain ?_))
  refine p_val (e_move (v := .slice _ _ _) rfl) rfl ?_
  refine p_val (e_len rfl Try.underlying33) rfl ?_
  refine p_val (e_gtr rfl rfl) rfl ?_
  refine p_nil (x_then ?_)
  refine s_cond rfl (fun hc => ?_) (fun hc => ?_)
  · refine s_skip (x_then (s_seq (s_block (s_plain ?_))))
    refine p_val (e_move (v := .slice _ _ _) rfl) rfl ?_
    obtain ⟨ad, rfl⟩ := hR.some_ (by rw [bv_length, List.length_drop]; omega)
    refine p_val (e_sl_h (64) rfl rfl (by omega) (by omega) Try.underlying33 sz5) rfl ?_
    refine p_does (d_call Try.func100 nm100 rfl rfl (block_calls _ b2 b3 ad c (hashes (pad l) g0) (((pad l).drop (64 * g0)).take 64) (0, 0) (S.exact_ 1 rfl rfl) (S.exact_ 0 rfl rfl) (S.ne 0 1 rfl rfl (by decide)) (Rd.take_bv hR (by omega)))) rfl ?_
    rintro _ w T
    have hR := hR.keep T (fun ad h => by cases h; simpa using hA _ rfl)
    have S := (S.sub1 1 T rfl rfl).pick [1, 0, 3] (by decide) (by simp) (by simp)
    refine p_nil (x_in (x_then (s_plain ?_)))
    refine p_val (e_move (v := .slice _ _ _) rfl) rfl ?_
    refine p_val (e_sl_l (64) rfl rfl (by omega) (by omega) Try.underlying33 sz5) rfl ?_
    refine p_val (e_assign (v := .slice _ _ _) rfl) rfl ?_
    refine p_nil ?_
    refine x_round (g0 + 1) _ rfl ⟨_, _, _, _, upds_eq ⟨rfl, rfl, rfl, rfl, trivial⟩, by omega, by omega, sl_block hA, by have := Rd.drop_bv (m := 64) hR (by omega) hc'; rw [List.drop_drop] at this; exact this, S⟩ (by omega)
  · refine s_exit (x_then_exit (x_then_exit (x_in_same (x_then (s_seq (s_plain ?_))))))
    refine p_does (d_allocA S zv29) rfl ?_
    rintro _ w ⟨b7, rfl, S⟩
    refine p_nil (x_then (s_seq (s_seq (s_plain ?_))))
    refine p_val (e_loadN (cs := wv (s8 (hashes (pad l) g0))) rfl ag135 sz135 (by rfl) (fun j u hu => (S.cell 2 rfl rfl _).trans (by simpa using hu))) rfl ?_
    refine p_val (e_move (v := .int _ _) rfl) rfl ?_
    refine p_nil (x_then (s_block ?_))
    refine s_loop (α := Nat) (fun g f' w' => ∃ u, f' = upds u [(2, .pointer (some ⟨b1, 0, none⟩)), (6, .pointer (some ⟨b7, 0, none⟩)), (21, .agg (wv (s8 (hashes (pad l) g0))).toArray), (22, .int .i64 (g : Int))] ∧ g ≤ 8 ∧ St w0 w' [] [some b7, some b1] [Ex (bv (outB (s8 (hashes (pad l) g0)) g)).toArray 29, Ex zl29.toArray 29]) (fun g => 8 - g) (0) (⟨_, upds_eq ⟨rfl, rfl, rfl, rfl, trivial⟩, by omega, S.pick [0, 3] (by decide) (by simp) (by simp)⟩) ?_
    rintro q f w ⟨u, rfl, hq, S⟩
    refine s_seq (s_plain ?_)
    refine p_val (e_lss rfl rfl) rfl ?_
    refine p_nil (x_then (s_seq ?_))
    refine s_cond rfl (fun hc => ?_) (fun hc => ?_)
    · refine s_skip (x_then (s_seq (s_block (s_seq (s_plain ?_)))))
      refine p_val (e_move (v := .int _ _) rfl) rfl ?_
      refine p_val (e_index rfl rfl Try.underlying135 ag133 sz133 (by omega) (wv_get (by simp only [s8, List.length_cons, List.length_nil]; omega))) rfl ?_
      refine p_val (e_assign (v := .int _ _) rfl) rfl ?_
      refine p_val (e_assign (v := .int _ _) rfl) rfl ?_
      refine p_nil (x_then (s_plain ?_))
      refine p_val (e_move (v := .int _ _) rfl) rfl ?_
      refine p_val (e_mul64 rfl rfl (by omega)) rfl ?_
      refine p_val (e_move (v := .int _ _) rfl) rfl ?_
      refine p_val (e_mul64 rfl rfl (by omega)) rfl ?_
      refine p_val (e_add64 rfl rfl (by omega)) rfl ?_
      refine p_val (e_move (v := .int _ _) rfl) rfl ?_
      refine p_val (e_mul64 rfl rfl (by omega)) rfl ?_
      refine p_val (e_add64 rfl rfl (by omega)) rfl ?_
      refine p_val (e_move (v := .int _ _) rfl) rfl ?_
      refine p_val (e_mul64 rfl rfl (by omega)) rfl ?_
      refine p_val (e_add64 rfl rfl (by omega)) rfl ?_
      refine p_val (e_move (v := .int _ _) rfl) rfl ?_
      refine p_val (e_shr32 24 rfl rfl (by decide)) rfl ?_
      refine p_val (e_conv8 rfl Try.underlying133 (by simp) Try.underlying5) rfl ?_
      refine p_val (e_move (v := .int _ _) rfl) rfl ?_
      refine p_val (e_shr32 16 rfl rfl (by decide)) rfl ?_
      refine p_val (e_conv8 rfl Try.underlying133 (by simp) Try.underlying5) rfl ?_
      refine p_val (e_move (v := .int _ _) rfl) rfl ?_
      refine p_val (e_shr32 8 rfl rfl (by decide)) rfl ?_
      refine p_val (e_conv8 rfl Try.underlying133 (by simp) Try.underlying5) rfl ?_
      refine p_val (e_move (v := .int _ _) rfl) rfl ?_
      refine p_val (e_conv8 rfl Try.underlying133 (by simp) Try.underlying5) rfl ?_
      refine p_val (e_ix_arr rfl rfl Try.underlying29 sz5 (by omega)) rfl ?_
      refine p_does (d_store1 (v := .int _ _) S 0 rfl rfl rfl sz5 rfl rfl (by simp [length_outB]; omega)) rfl ?_
      intro _ w S
      refine p_val (e_ix_arr rfl rfl Try.underlying29 sz5 (by omega)) rfl ?_
      refine p_does (d_store1 (v := .int _ _) S 0 rfl rfl rfl sz5 rfl rfl (by simp [length_outB]; omega)) rfl ?_
      intro _ w S
      refine p_val (e_ix_arr rfl rfl Try.underlying29 sz5 (by omega)) rfl ?_
      refine p_does (d_store1 (v := .int _ _) S 0 rfl rfl rfl sz5 rfl rfl (by simp [length_outB]; omega)) rfl ?_
      intro _ w S
      refine p_val (e_ix_arr rfl rfl Try.underlying29 sz5 (by omega)) rfl ?_
      refine p_does (d_store1 (v := .int _ _) S 0 rfl rfl rfl sz5 rfl rfl (by simp [length_outB]; omega)) rfl ?_
      intro _ w S
      refine p_nil (x_in (x_then (s_plain ?_)))
      refine p_val (e_add64 rfl rfl (by omega)) rfl ?_
      refine p_val (e_move (v := .int _ _) rfl) rfl ?_
      refine p_nil ?_
      refine x_round (q + 1) _ rfl ⟨_, upds_eq ⟨rfl, rfl, rfl, rfl, trivial⟩, by omega, S.asEx (outB_step (s8 (hashes (pad l) g0)) q rfl _ _ _ _ _ _ _ _ (by omega) (by omega) (by omega) (by omega) rfl rfl rfl rfl)⟩ (by omega)
    · refine s_exit (x_then_exit (x_then_exit (x_in_same (x_then (s_seq (s_plain ?_))))))
      refine p_val (e_loadN (cs := bv (outB (s8 (hashes (pad l) g0)) q)) rfl ag29 sz29 (by simp [length_outB]) (fun j u hu => (S.cell 0 rfl rfl _).trans (by simpa using hu))) rfl ?_
      refine p_does (d_storeW S 1 rfl rfl (bv_one _) sz29 (by simp [length_outB]) rfl rfl (by rfl)) rfl ?_
      intro _ w S
      refine p_nil (x_then (s_ret ?_))
      exact postC Try.results80 S 1 rfl rfl rfl ag29 sz29 (by simp [length_outB]) ⟨by obtain rfl : q = 8 := (by omega); rw [sumOf, show (pad l).length / 64 = g0 by omega], S.to_below⟩
end Go.Proofs.Ytdhfiamgmokfbaa
