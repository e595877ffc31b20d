/- What reads bytes. It proves no statement by itself. -/
import Derived.Test.YtcgcjklpilbndaaRdr
import Derived.Test.YtcgcjklpilbndaaCon2
set_option linter.unusedSimpArgs false
set_option linter.unusedVariables false
set_option maxRecDepth 100000
set_option maxHeartbeats 1000000
namespace Go.Proofs.Ytcgcjklpilbndaa
open Go Go.RowKit E
attribute [local irreducible] wpList seqH treeH
/-- an eye's block: what is left, the first error -/
abbrev eyeE (A : Option Addr) (c : Nat) (e : Int) (l : List Nat) : Option Obj → Prop := Ex (cat [[.slice A l.length c], [.int .i64 e]]).toArray 128
theorem eye_look (w0 : World) (A : Option Addr) (c : Nat) (l : List Nat) :
    Ret Try.prog 52 [.slice A l.length c] w0 fun v w' => ∃ hb, v = .pointer (some ⟨hb, 0, none⟩) ∧ St w0 w' [] [some hb] [eyeE A c 0 l] := by
  refine enter Try.func52 rfl Try.ntmps52 (Nat.le_of_ble_eq_true rfl) ?_
  have S := St.init w0
  refine s_seq (s_plain ?_)
  refine p_val (e_assign (v := .pointer _) rfl) rfl ?_
  refine p_nil (x_then (s_seq (s_plain ?_)))
  refine p_val (e_move (v := .slice _ _ _) rfl) rfl ?_
  refine p_val (e_buildS bt128 (Eq.trans (fill_cat (v := .slice _ _ _) (l' := [[_]]) 0 1 rfl (rfl) (by first | with_reducible assumption | (simp [cat]; done) | (simp [cat]; omega) | rfl) (by first | with_reducible assumption | (simp [cat]; done) | (simp [cat]; omega) | rfl) (by first | with_reducible assumption | (simp [cat]; done) | (simp [cat]; omega) | rfl)) rfl)) rfl ?_
  refine p_does (d_boxA S rfl) rfl ?_
  rintro _ w ⟨b5, rfl, S⟩
  refine p_val (e_assign (v := .pointer _) rfl) rfl ?_
  refine p_nil (x_then (s_ret ?_))
  exact post1 (v := .pointer _) Try.results52 rfl (⟨_, rfl, S⟩)
theorem eye_fail (w0 : World) (hb : Nat) (A : Option Addr) (c : Nat) (e x : Int) (l : List Nat) (S0 : St w0 w0 (exOf [some hb]) [some hb] [eyeE A c e l]) :
    Ret Try.prog 72 [.pointer (some ⟨hb, 0, none⟩), .int .i64 x] w0 fun v w' => v = .tuple #[] ∧ St w0 w' (exOf [some hb]) [some hb] [eyeE A c (rFail x e) l] := by
  refine enter Try.func72 rfl Try.ntmps72 (Nat.le_of_ble_eq_true rfl) ?_
  have S := S0
  refine s_seq ?_
  refine s_cutK (ks := [some hb]) (ps := [Ex _ _]) [(0, .pointer _), (1, .int _ _)] ⟨rfl, rfl, trivial⟩ S (fun keep ks ps f' w' => ∃ u bb, f' = upds u ((12, .bool bb) :: keep) ∧ (bb = true ↔ e = 0) ∧ St w0 w' (exOf [some hb]) ks ps) ?_ ?_
  · refine s_plain ?_
    refine p_val (e_move (v := .pointer _) rfl) rfl ?_
    refine p_valb (e_neqP rfl rfl Try.underlying108) rfl (fun hg5 => ?_) (fun hg5 => ?_)
    · refine p_val (e_move (v := .bool _) rfl) rfl ?_
      refine pg_val rfl rfl rfl rfl rfl (e_move (v := .pointer _) rfl) ?_
      refine pg_val rfl rfl rfl rfl rfl (e_nil rfl rfl) ?_
      refine pg_val rfl rfl rfl rfl rfl (e_field rfl Try.underlying128 rfl sz34 (by decide)) ?_
      refine pg_val rfl rfl rfl rfl rfl (e_loadF1 (i := 1) (off := 1) rfl ag34 S (j := 0) rfl rfl rfl (by first | with_reducible assumption | (simp [cat]; done) | (simp [cat]; omega) | rfl)) ?_
      refine pg_val rfl rfl rfl rfl rfl (e_eql rfl rfl) ?_
      refine p_val (e_pick_t rfl rfl) rfl ?_
      exact p_nil (x_then ⟨_, rfl, _, _, upds_eq ⟨rfl, rfl, rfl, trivial⟩, by first | (simp only [decide_eq_true_eq, eq_self, true_iff, iff_true, iff_false, Bool.false_eq_true, false_iff, ge_iff_le, gt_iff_lt, true_and, and_true, false_and, and_false, true_or, or_true, false_or, or_false, not_true_eq_false, not_false_eq_true]; omega) | simp | omega | simp_all, S⟩)
    · exact False.elim (by simp at hg5)
  · rintro f w ⟨u, b12, rfl, hb12, S⟩
    refine x_then ?_
    refine s_condb rfl (fun hc12 => ?_) (fun hc12 => ?_)
    · have hp12 : e = 0 := hb12.1 hc12
      refine s_plain ?_
      refine p_val (e_move (v := .pointer _) rfl) rfl ?_
      refine p_val (e_move (v := .int _ _) rfl) rfl ?_
      refine p_val (e_nil rfl rfl) rfl ?_
      refine p_val (e_field rfl Try.underlying128 rfl sz34 (by decide)) rfl ?_
      refine p_does (d_storeF1 (v := .int _ _) (off := 1) S 0 1 rfl rfl rfl sz34 rfl rfl rfl (by first | with_reducible assumption | (simp [cat]; done) | (simp [cat]; omega) | rfl)) rfl ?_
      intro _ w S
      refine p_nil (post_end ?_)
      exact post0 Try.results72 (⟨rfl, by unfold rFail; rw [if_pos hp12]; exact S⟩)
    · have hp12 : ¬ e = 0 := fun h => by rw [hb12.2 h] at hc12; cases hc12
      refine s_skip (post_end ?_)
      exact post0 Try.results72 (⟨rfl, by unfold rFail; rw [if_neg hp12]; exact S⟩)
theorem eye_err (w0 : World) (hb : Nat) (A : Option Addr) (c : Nat) (e : Int) (l : List Nat) (S0 : St w0 w0 (exOf [some hb]) [some hb] [eyeE A c e l]) :
    Ret Try.prog 73 [.pointer (some ⟨hb, 0, none⟩)] w0 fun v w' => v = .int .i64 e ∧ w0 = w' := by
  refine enter Try.func73 rfl Try.ntmps73 (Nat.le_of_ble_eq_true rfl) ?_
  have S := S0
  refine s_seq (s_plain ?_)
  refine p_val (e_assign (v := .int _ _) rfl) rfl ?_
  refine p_nil (x_then (s_seq (s_seq (s_plain ?_))))
  refine p_val (e_move (v := .pointer _) rfl) rfl ?_
  refine p_val (e_eqlP rfl rfl Try.underlying108) rfl ?_
  refine p_nil (x_then ?_)
  refine s_condb rfl (fun hc4 => ?_) (fun hc4 => ?_)
  · exact False.elim (by simp at hc4)
  · refine s_skip (x_then (s_seq (s_plain ?_)))
    refine p_val (e_move (v := .pointer _) rfl) rfl ?_
    refine p_val (e_nil rfl rfl) rfl ?_
    refine p_val (e_field rfl Try.underlying128 rfl sz34 (by decide)) rfl ?_
    refine p_val (e_loadF1 (i := 1) (off := 1) rfl ag34 S (j := 0) rfl rfl rfl (by first | with_reducible assumption | (simp [cat]; done) | (simp [cat]; omega) | rfl)) rfl ?_
    refine p_val (e_assign (v := .int _ _) rfl) rfl ?_
    refine p_nil (x_then (s_ret ?_))
    exact post1 (v := .int _ _) Try.results73 rfl (⟨rfl, rfl⟩)
theorem eye_num (w0 : World) (hb : Nat) (A : Option Addr) (c : Nat) (e : Int) (l : List Nat) (S0 : St w0 w0 (exOf [some hb]) [some hb] [eyeE A c e l]) (R : Rd w0 1 A l.length (bv l)) (oR : Off A l.length (exOf [some hb])) (bR : Bytes l) (cR : l.length ≤ c) (nR : l.length ≤ 1099511000000) :
    Ret Try.prog 71 [.pointer (some ⟨hb, 0, none⟩)] w0 fun v w' => ∃ a e1 l1 A1 c1, rNum e l = (a, e1, l1) ∧ v = .int .i64 a ∧ EyeTo A c l A1 c1 l1 ∧ St w0 w' (exOf [some hb]) [some hb] [eyeE A1 c1 e1 l1] := by
  refine enter Try.func71 rfl Try.ntmps71 (Nat.le_of_ble_eq_true rfl) ?_
  have S := S0
  refine s_seq (s_plain ?_)
  refine p_val (e_assign (v := .int _ _) rfl) rfl ?_
  refine p_nil (x_then (s_seq (s_seq (s_plain ?_))))
  refine p_val (e_move (v := .pointer _) rfl) rfl ?_
  refine p_does (d_call Try.func73 nm73 rfl rfl (eye_err _ _ _ _ _ _ (S.hr [0] rfl))) rfl ?_
  rintro _ w ⟨rfl, rfl⟩
  refine p_val (e_neq rfl rfl) rfl ?_
  refine p_nil (x_then ?_)
  refine s_cond rfl (fun hc8 => ?_) (fun hc8 => ?_)
  · refine s_seq (s_plain ?_)
    refine p_val (e_assign (v := .int _ _) rfl) rfl ?_
    refine p_nil (x_then (s_ret (x_then_ret ?_)))
    exact post1 (v := .int _ _) Try.results71 rfl (⟨_, _, _, _, _, rNum_no hc8 l, rfl, EyeTo.refl cR, S⟩)
  · obtain rfl : e = 0 := Classical.not_not.1 hc8
    refine s_skip (x_then (s_seq (s_plain ?_)))
    refine p_val (e_assign (v := .int _ _) rfl) rfl ?_
    refine p_nil (x_then (s_seq (s_seq (s_plain ?_))))
    refine p_val (e_move (v := .int _ _) rfl) rfl ?_
    refine p_nil (x_then (s_block ?_))
    refine s_loopK (α := Nat) (ks := [some hb]) (ps := [Ex _ _]) [(0, .pointer _)] ⟨rfl, trivial⟩ S (fun keep ks ps g f' w' => ∃ u v, f' = upds u ((3, .int .u64 ((v : Nat) : Int)) :: (9, .int .i64 (g : Int)) :: keep) ∧ (g ≤ 9) ∧ (g ≤ l.length) ∧ (v < 128 ^ g) ∧ (rn 9 0 0 l = rn (9 - g) g v (l.drop g)) ∧ St w0 w' (exOf [some hb]) [some hb] [eyeE A c 0 l]) (fun g => 9 - g) (0) (⟨_, 0, upds_eq ⟨rfl, rfl, rfl, trivial⟩, by first | omega | rfl | with_reducible assumption | (simp; done) | (simp; omega), by first | omega | rfl | with_reducible assumption | (simp; done) | (simp; omega), by decide, by rw [List.drop_zero], S⟩) ?_
    rintro g f w ⟨u, v, rfl, hg, hgl, hv, hr, S⟩
    refine s_seq (s_plain ?_)
    refine p_val (e_lss rfl rfl) rfl ?_
    refine p_nil (x_then (s_seq ?_))
    refine s_cond rfl (fun hc10 => ?_) (fun hc10 => ?_)
    · refine s_skip (x_then (s_seq (s_block (s_seq (s_plain ?_)))))
      refine p_val (e_move (v := .int _ _) rfl) rfl ?_
      refine p_val (e_assign (v := .int _ _) rfl) rfl ?_
      refine p_nil (x_then (s_seq (s_seq (s_plain ?_))))
      refine p_val (e_move (v := .int _ _) rfl) rfl ?_
      refine p_val (e_move (v := .pointer _) rfl) rfl ?_
      refine p_val (e_nil rfl rfl) rfl ?_
      refine p_val (e_field rfl Try.underlying128 rfl sz47 (by decide)) rfl ?_
      refine p_val (e_loadF1 (i := 0) (off := 0) rfl ag47 S (j := 0) rfl rfl rfl (by first | with_reducible assumption | (simp [cat]; done) | (simp [cat]; omega) | rfl)) rfl ?_
      refine p_val (e_len rfl Try.underlying47) rfl ?_
      refine p_val (e_geq rfl rfl) rfl ?_
      refine p_nil (x_then ?_)
      refine s_cond rfl (fun hc18 => ?_) (fun hc18 => ?_)
      · have e9 : rn 9 0 0 l = .inl 2 := by
          rw [hr, List.drop_of_length_le (by omega), show 9 - g = (8 - g) + 1 by omega]
          rfl
        refine s_seq (s_plain ?_)
        refine p_val (e_move (v := .pointer _) rfl) rfl ?_
        refine p_does (d_call Try.func72 nm72 rfl rfl (eye_fail _ _ _ _ _ _ _ (S.hr [0] rfl))) rfl ?_
        rintro _ w ⟨rfl, T⟩
        have S := (S.call [0] T rfl).pk [0] rfl
        refine p_nil (x_then (s_seq (s_plain ?_)))
        refine p_val (e_assign (v := .int _ _) rfl) rfl ?_
        refine p_nil (x_then (s_ret (x_then_ret (x_in_ret (x_then_ret (x_then_ret (x_in_ret (x_then_ret ?_))))))))
        exact post1 (v := .int _ _) Try.results71 rfl (⟨_, _, _, _, _, rNum_inl e9, rfl, EyeTo.refl cR, S⟩)
      · refine s_skip (x_then (s_seq (s_plain ?_)))
        have hcb := bytes_getD bR (g : Int).toNat
        have hdc : l.drop g = l.getD (g : Int).toNat 0 :: l.drop (g + 1) := by rw [Int.toNat_natCast]; exact drop_cons (by omega)
        have hp8 := pow128 (g := g) (by omega)
        have hm8 := mul128 (c := l.getD (g : Int).toNat 0) (g := g) (by omega)
        refine p_val (e_move (v := .pointer _) rfl) rfl ?_
        refine p_val (e_nil rfl rfl) rfl ?_
        refine p_val (e_field rfl Try.underlying128 rfl sz47 (by decide)) rfl ?_
        refine p_val (e_loadF1 (i := 0) (off := 0) rfl ag47 S (j := 0) rfl rfl rfl (by first | with_reducible assumption | (simp [cat]; done) | (simp [cat]; omega) | rfl)) rfl ?_
        refine p_val (e_move (v := .int _ _) rfl) rfl ?_
        refine p_val (e_ixR (S.rdOff R oR) (by decide) rfl rfl Try.underlying47 sz5 (by omega)) rfl ?_
        refine p_val (e_loadRb rfl ag5 (S.rdOff R oR) (by omega)) rfl ?_
        refine p_val (e_assign (v := .int _ _) rfl) rfl ?_
        refine p_nil (x_then (s_seq (s_plain ?_)))
        refine p_val (e_move (v := .int _ _) rfl) rfl ?_
        refine p_val (e_move (v := .int _ _) rfl) rfl ?_
        refine p_val (e_and8 (n := 127) rfl rfl (by omega) (by omega)) rfl ?_
        refine p_val (e_convU64 rfl Try.underlying5 (by simp) Try.underlying130) rfl ?_
        refine p_val (e_move (v := .int _ _) rfl) rfl ?_
        refine p_val (e_mul64 rfl rfl (by omega)) rfl ?_
        refine p_val (e_shlU64 (7 * g) rfl rfl (by omega)) rfl ?_
        refine p_val (e_or64 rfl rfl (by omega) (Nat.mod_lt _ (by decide))) rfl ?_
        refine p_val (e_assign (v := .int _ _) rfl) rfl ?_
        refine p_nil ?_
        rw [or_step hv (by omega)]
        refine x_then (s_seq (s_plain ?_))
        refine p_val (e_move (v := .int _ _) rfl) rfl ?_
        refine p_val (e_lss rfl rfl) rfl ?_
        refine p_nil (x_then ?_)
        refine s_cond rfl (fun hc37 => ?_) (fun hc37 => ?_)
        · refine s_seq (s_seq ?_)
          refine s_cutK (ks := [some hb]) (ps := [Ex _ _]) [(0, .pointer _), (3, .int _ _), (4, .int _ _)] ⟨rfl, rfl, rfl, trivial⟩ S (fun keep ks ps f' w' => ∃ u bb, f' = upds u ((43, .bool bb) :: keep) ∧ (bb = true ↔ (l.getD (g : Int).toNat 0 = 0 ∧ 0 < g)) ∧ St w0 w' (exOf [some hb]) ks ps) ?_ ?_
          · refine s_plain ?_
            refine p_val (e_move (v := .int _ _) rfl) rfl ?_
            refine p_valB (e_eql rfl rfl) rfl (fun hg39 => ?_) (fun hg39 => ?_)
            · refine p_val (e_move (v := .bool _) rfl) rfl ?_
              refine pg_val rfl rfl rfl rfl rfl (e_move (v := .int _ _) rfl) ?_
              refine pg_val rfl rfl rfl rfl rfl (e_gtr rfl rfl) ?_
              refine p_val (e_pick_t rfl rfl) rfl ?_
              exact p_nil (x_then ⟨_, rfl, _, _, upds_eq ⟨rfl, rfl, rfl, rfl, trivial⟩, by first | (simp only [decide_eq_true_eq, eq_self, true_iff, iff_true, iff_false, Bool.false_eq_true, false_iff, ge_iff_le, gt_iff_lt, true_and, and_true, false_and, and_false, true_or, or_true, false_or, or_false, not_true_eq_false, not_false_eq_true]; omega) | simp | omega | simp_all, S⟩)
            · refine p_val (e_move (v := .bool _) rfl) rfl ?_
              refine p_no rfl rfl rfl rfl rfl ?_
              refine p_no rfl rfl rfl rfl rfl ?_
              refine p_val (e_pick_f rfl rfl) rfl ?_
              exact p_nil (x_then ⟨_, rfl, _, _, upds_eq ⟨rfl, rfl, rfl, rfl, trivial⟩, by first | (simp only [decide_eq_true_eq, eq_self, true_iff, iff_true, iff_false, Bool.false_eq_true, false_iff, ge_iff_le, gt_iff_lt, true_and, and_true, false_and, and_false, true_or, or_true, false_or, or_false, not_true_eq_false, not_false_eq_true]; omega) | simp | omega | simp_all, S⟩)
          · rintro f w ⟨u, b43, rfl, hb43, S⟩
            refine x_then ?_
            refine s_condb rfl (fun hc43 => ?_) (fun hc43 => ?_)
            · have hp43 : (l.getD (g : Int).toNat 0 = 0 ∧ 0 < g) := hb43.1 hc43
              have e9 : rn 9 0 0 l = .inl 4 := by
                rw [hr, hdc, show 9 - g = (8 - g) + 1 by omega]
                show (if _ then (if _ then _ else _) else _) = _
                rw [if_pos (by omega), if_pos hp43]
              refine s_seq (s_plain ?_)
              refine p_val (e_move (v := .pointer _) rfl) rfl ?_
              refine p_does (d_call Try.func72 nm72 rfl rfl (eye_fail _ _ _ _ _ _ _ (S.hr [0] rfl))) rfl ?_
              rintro _ w ⟨rfl, T⟩
              have S := (S.call [0] T rfl).pk [0] rfl
              refine p_nil (x_then (s_seq (s_plain ?_)))
              refine p_val (e_assign (v := .int _ _) rfl) rfl ?_
              refine p_nil (x_then (s_ret (x_then_ret (x_in_ret (x_then_ret (x_then_ret (x_in_ret (x_then_ret ?_))))))))
              exact post1 (v := .int _ _) Try.results71 rfl (⟨_, _, _, _, _, rNum_inl e9, rfl, EyeTo.refl cR, S⟩)
            · have hp43 : ¬ (l.getD (g : Int).toNat 0 = 0 ∧ 0 < g) := fun h => by rw [hb43.2 h] at hc43; cases hc43
              have e9 : rn 9 0 0 l = .inr (v + l.getD (g : Int).toNat 0 % 128 * 128 ^ g, l.drop (g + 1)) := by
                rw [hr, hdc, show 9 - g = (8 - g) + 1 by omega]
                show (if _ then (if _ then _ else _) else _) = _
                rw [if_pos (by omega), if_neg hp43]
              refine s_skip (x_then (s_seq (s_plain ?_)))
              refine p_val (e_move (v := .pointer _) rfl) rfl ?_
              refine p_val (e_move (v := .pointer _) rfl) rfl ?_
              refine p_val (e_nil rfl rfl) rfl ?_
              refine p_val (e_field rfl Try.underlying128 rfl sz47 (by decide)) rfl ?_
              refine p_val (e_loadF1 (i := 0) (off := 0) rfl ag47 S (j := 0) rfl rfl rfl (by first | with_reducible assumption | (simp [cat]; done) | (simp [cat]; omega) | rfl)) rfl ?_
              refine p_val (e_move (v := .int _ _) rfl) rfl ?_
              refine p_val (e_add64 rfl rfl (by omega)) rfl ?_
              refine p_val (e_sl_l (g + 1) rfl rfl (rfl) (by omega) Try.underlying47 sz5) rfl ?_
              refine p_val (e_nil rfl rfl) rfl ?_
              refine p_val (e_field rfl Try.underlying128 rfl sz47 (by decide)) rfl ?_
              refine p_does (d_storeF1 (v := .slice _ _ _) (off := 0) S 0 0 rfl rfl rfl sz47 rfl rfl rfl (by first | with_reducible assumption | (simp [cat]; done) | (simp [cat]; omega) | rfl)) rfl ?_
              intro _ w S
              refine p_nil (x_then (s_seq (s_plain ?_)))
              refine p_val (e_move (v := .int _ _) rfl) rfl ?_
              refine p_val (e_conv_in rfl Try.underlying130 (by simp) Try.underlying3 (IntWalk.i64_in _ (by omega))) rfl ?_
              refine p_val (e_assign (v := .int _ _) rfl) rfl ?_
              refine p_nil (x_then (s_ret (x_in_ret (x_then_ret (x_then_ret (x_in_ret (x_then_ret ?_)))))))
              exact post1 (v := .int _ _) Try.results71 rfl (⟨_, _, _, _, _, rNum_inr e9, rfl, EyeTo.drop (m := g + 1) (by omega) cR, by unfold eyeE; rw [List.length_drop]; exact S⟩)
        · refine s_skip (x_in (x_then (s_plain ?_)))
          refine p_val (e_add64 rfl rfl (by omega)) rfl ?_
          refine p_val (e_move (v := .int _ _) rfl) rfl ?_
          refine p_nil ?_
          refine x_round (g + 1) _ rfl ⟨_, _, upds_eq ⟨rfl, rfl, rfl, trivial⟩, by first | omega | rfl | with_reducible assumption | (simp; done) | (simp; omega), by first | omega | rfl | with_reducible assumption | (simp; done) | (simp; omega), next128 hv, by rw [hr, hdc, show 9 - g = (8 - g) + 1 by omega, show 9 - (g + 1) = 8 - g by omega]; show (if _ then _ else _) = _; rw [if_neg (by omega)], S⟩ (by omega)
    · refine s_exit (x_then_exit (x_then_exit (x_in_same (x_then (s_seq (s_plain ?_))))))
      refine p_val (e_move (v := .pointer _) rfl) rfl ?_
      refine p_does (d_call Try.func72 nm72 rfl rfl (eye_fail _ _ _ _ _ _ _ (S.hr [0] rfl))) rfl ?_
      rintro _ w ⟨rfl, T⟩
      have S := (S.call [0] T rfl).pk [0] rfl
      refine p_nil (x_then (s_seq (s_plain ?_)))
      refine p_val (e_assign (v := .int _ _) rfl) rfl ?_
      refine p_nil (x_then (s_ret ?_))
      exact post1 (v := .int _ _) Try.results71 rfl (⟨_, _, _, _, _, rNum_inl (x := 5) (by rw [hr, show 9 - g = 0 by omega]; rfl), rfl, EyeTo.refl cR, S⟩)
theorem eye_upto (w0 : World) (hb : Nat) (A : Option Addr) (c : Nat) (e m : Int) (l : List Nat) (S0 : St w0 w0 (exOf [some hb]) [some hb] [eyeE A c e l]) (R : Rd w0 1 A l.length (bv l)) (oR : Off A l.length (exOf [some hb])) (bR : Bytes l) (cR : l.length ≤ c) (nR : l.length ≤ 1099511000000) :
    Ret Try.prog 53 [.pointer (some ⟨hb, 0, none⟩), .int .i64 m] w0 fun v w' => ∃ a e1 l1 A1 c1, rUpto m e l = (a, e1, l1) ∧ v = .int .i64 a ∧ EyeTo A c l A1 c1 l1 ∧ St w0 w' (exOf [some hb]) [some hb] [eyeE A1 c1 e1 l1] := by
  refine enter Try.func53 rfl Try.ntmps53 (Nat.le_of_ble_eq_true rfl) ?_
  have S := S0
  refine s_seq (s_plain ?_)
  refine p_val (e_assign (v := .int _ _) rfl) rfl ?_
  refine p_nil (x_then (s_seq (s_plain ?_)))
  refine p_val (e_move (v := .pointer _) rfl) rfl ?_
  refine p_does (d_call Try.func71 nm71 rfl rfl (eye_num _ _ _ _ _ _ (S.hr [0] rfl) (S.rdOff R oR) (S.offOld [0] R (by decide) oR rfl) bR cR nR)) rfl ?_
  rintro _ w ⟨a7, e7, l7, A7, c7, q7, rfl, t7, T⟩
  have S := (S.call [0] T rfl).pk [0] rfl
  have R7 := t7.rd _ R
  have bR7 := t7.by_ bR
  have cR7 := t7.cap
  have nR7 := t7.len nR
  have oR7 := t7.off _ oR
  refine p_val (e_assign (v := .int _ _) rfl) rfl ?_
  refine p_nil (x_then (s_seq ?_))
  refine s_cutK (ks := [some hb]) (ps := [Ex _ _]) [(0, .pointer _), (5, .int _ _)] ⟨rfl, rfl, trivial⟩ S (fun keep ks ps f' w' => ∃ u e2, f' = upds u (keep) ∧ (e2 = if m < a7 then rFail 5 e7 else e7) ∧ St w0 w' (exOf [some hb]) [some hb] [eyeE A7 c7 e2 l7]) ?_ ?_
  · refine s_seq (s_plain ?_)
    refine p_val (e_move (v := .int _ _) rfl) rfl ?_
    refine p_val (e_move (v := .int _ _) rfl) rfl ?_
    refine p_val (e_gtr rfl rfl) rfl ?_
    refine p_nil (x_then ?_)
    refine s_cond rfl (fun hc10 => ?_) (fun hc10 => ?_)
    · refine s_plain ?_
      refine p_val (e_move (v := .pointer _) rfl) rfl ?_
      refine p_does (d_call Try.func72 nm72 rfl rfl (eye_fail _ _ _ _ _ _ _ (S.hr [0] rfl))) rfl ?_
      rintro _ w ⟨rfl, T⟩
      have S := (S.call [0] T rfl).pk [0] rfl
      refine p_nil ?_
      exact x_then ⟨_, rfl, _, _, upds_eq ⟨rfl, rfl, trivial⟩, by rw [if_pos hc10], S⟩
    · refine s_skip ?_
      exact x_then ⟨_, rfl, _, _, upds_eq ⟨rfl, rfl, trivial⟩, by rw [if_neg hc10], S⟩
  · rintro f w ⟨u, e2, rfl, he2, S⟩
    refine x_then (s_seq (s_seq (s_plain ?_)))
    refine p_val (e_move (v := .pointer _) rfl) rfl ?_
    refine p_does (d_call Try.func73 nm73 rfl rfl (eye_err _ _ _ _ _ _ (S.hr [0] rfl))) rfl ?_
    rintro _ w ⟨rfl, rfl⟩
    refine p_val (e_neq rfl rfl) rfl ?_
    refine p_nil (x_then ?_)
    refine s_cond rfl (fun hc15 => ?_) (fun hc15 => ?_)
    · refine s_seq (s_plain ?_)
      refine p_val (e_assign (v := .int _ _) rfl) rfl ?_
      refine p_nil (x_then (s_ret (x_then_ret ?_)))
      exact post1 (v := .int _ _) Try.results53 rfl (⟨_, _, _, _, _, rUpto_of q7 he2, by rw [if_neg hc15], t7, S⟩)
    · refine s_skip (x_then (s_seq (s_plain ?_)))
      refine p_val (e_move (v := .int _ _) rfl) rfl ?_
      refine p_val (e_assign (v := .int _ _) rfl) rfl ?_
      refine p_nil (x_then (s_ret ?_))
      exact post1 (v := .int _ _) Try.results53 rfl (⟨_, _, _, _, _, rUpto_of q7 he2, by rw [if_pos (Classical.not_not.1 hc15)], t7, S⟩)
theorem eye_raw (w0 : World) (hb : Nat) (A : Option Addr) (c : Nat) (e m : Int) (l : List Nat) (S0 : St w0 w0 (exOf [some hb]) [some hb] [eyeE A c e l]) (R : Rd w0 1 A l.length (bv l)) (oR : Off A l.length (exOf [some hb])) (cR : l.length ≤ c) (nR : l.length ≤ 1099511000000) :
    Ret Try.prog 74 [.pointer (some ⟨hb, 0, none⟩), .int .i64 m] w0 fun v w' => ∃ k2 c2 s e1 l1 A1 c1, rRaw m e l = (s, e1, l1) ∧ v = .slice (at_ k2) (List.length s) c2 ∧ EyeTo A c l A1 c1 l1 ∧ St w0 w' (exOf [some hb]) [k2, some hb] [Rw 5 1 s.length c2 (bv s), eyeE A1 c1 e1 l1] := by
  refine enter Try.func74 rfl Try.ntmps74 (Nat.le_of_ble_eq_true rfl) ?_
  have S := S0
  refine s_seq (s_plain ?_)
  refine p_val (e_assign (v := .slice _ _ _) rfl) rfl ?_
  refine p_nil (x_then (s_seq (s_seq (s_plain ?_))))
  refine p_val (e_move (v := .pointer _) rfl) rfl ?_
  refine p_does (d_call Try.func73 nm73 rfl rfl (eye_err _ _ _ _ _ _ (S.hr [0] rfl))) rfl ?_
  rintro _ w ⟨rfl, rfl⟩
  refine p_val (e_neq rfl rfl) rfl ?_
  refine p_nil (x_then ?_)
  refine s_cond rfl (fun hc8 => ?_) (fun hc8 => ?_)
  · refine s_seq (s_plain ?_)
    refine p_val (e_assign (v := .slice _ _ _) rfl) rfl ?_
    refine p_nil (x_then (s_ret (x_then_ret ?_)))
    exact post1 (v := .slice _ _ _) Try.results74 rfl (⟨none, 0, [], _, _, _, _, by unfold rRaw; rw [if_neg hc8], rfl, EyeTo.refl cR, S.addNil 5 1⟩)
  · obtain rfl : e = 0 := Classical.not_not.1 hc8
    refine s_skip (x_then (s_seq (s_seq ?_)))
    refine s_cutK (ks := [some hb]) (ps := [Ex _ _]) [(0, .pointer _), (1, .int _ _)] ⟨rfl, rfl, trivial⟩ S (fun keep ks ps f' w' => ∃ u bb, f' = upds u ((19, .bool bb) :: keep) ∧ (bb = true ↔ (m < 0 ∨ (l.length : Int) < m)) ∧ St w0 w' (exOf [some hb]) ks ps) ?_ ?_
    · refine s_plain ?_
      refine p_val (e_move (v := .int _ _) rfl) rfl ?_
      refine p_valB (e_lss rfl rfl) rfl (fun hg10 => ?_) (fun hg10 => ?_)
      · refine p_val (e_move (v := .bool _) rfl) rfl ?_
        refine p_no rfl rfl rfl rfl rfl ?_
        refine p_no rfl rfl rfl rfl rfl ?_
        refine p_no rfl rfl rfl rfl rfl ?_
        refine p_no rfl rfl rfl rfl rfl ?_
        refine p_no rfl rfl rfl rfl rfl ?_
        refine p_no rfl rfl rfl rfl rfl ?_
        refine p_no rfl rfl rfl rfl rfl ?_
        refine p_val (e_pick_t rfl rfl) rfl ?_
        exact p_nil (x_then ⟨_, rfl, _, _, upds_eq ⟨rfl, rfl, rfl, trivial⟩, by first | (simp only [decide_eq_true_eq, eq_self, true_iff, iff_true, iff_false, Bool.false_eq_true, false_iff, ge_iff_le, gt_iff_lt, true_and, and_true, false_and, and_false, true_or, or_true, false_or, or_false, not_true_eq_false, not_false_eq_true]; omega) | simp | omega | simp_all, S⟩)
      · refine p_val (e_move (v := .bool _) rfl) rfl ?_
        refine pg_val rfl rfl rfl rfl rfl (e_move (v := .int _ _) rfl) ?_
        refine pg_val rfl rfl rfl rfl rfl (e_move (v := .pointer _) rfl) ?_
        refine pg_val rfl rfl rfl rfl rfl (e_nil rfl rfl) ?_
        refine pg_val rfl rfl rfl rfl rfl (e_field rfl Try.underlying128 rfl sz47 (by decide)) ?_
        refine pg_val rfl rfl rfl rfl rfl (e_loadF1 (i := 0) (off := 0) rfl ag47 S (j := 0) rfl rfl rfl (by first | with_reducible assumption | (simp [cat]; done) | (simp [cat]; omega) | rfl)) ?_
        refine pg_val rfl rfl rfl rfl rfl (e_len rfl Try.underlying47) ?_
        refine pg_val rfl rfl rfl rfl rfl (e_gtr rfl rfl) ?_
        refine p_val (e_pick_f rfl rfl) rfl ?_
        exact p_nil (x_then ⟨_, rfl, _, _, upds_eq ⟨rfl, rfl, rfl, trivial⟩, by first | (simp only [decide_eq_true_eq, eq_self, true_iff, iff_true, iff_false, Bool.false_eq_true, false_iff, ge_iff_le, gt_iff_lt, true_and, and_true, false_and, and_false, true_or, or_true, false_or, or_false, not_true_eq_false, not_false_eq_true]; omega) | simp | omega | simp_all, S⟩)
    · rintro f w ⟨u, b19, rfl, hb19, S⟩
      refine x_then ?_
      refine s_condb rfl (fun hc19 => ?_) (fun hc19 => ?_)
      · have hp19 : (m < 0 ∨ (l.length : Int) < m) := hb19.1 hc19
        refine s_seq (s_plain ?_)
        refine p_val (e_move (v := .pointer _) rfl) rfl ?_
        refine p_does (d_call Try.func72 nm72 rfl rfl (eye_fail _ _ _ _ _ _ _ (S.hr [0] rfl))) rfl ?_
        rintro _ w ⟨rfl, T⟩
        have S := (S.call [0] T rfl).pk [0] rfl
        refine p_nil (x_then (s_seq (s_plain ?_)))
        refine p_val (e_assign (v := .slice _ _ _) rfl) rfl ?_
        refine p_nil (x_then (s_ret (x_then_ret ?_)))
        exact post1 (v := .slice _ _ _) Try.results74 rfl (⟨none, 0, [], _, _, _, _, by unfold rRaw; rw [if_pos rfl, if_pos hp19]; rfl, rfl, EyeTo.refl cR, S.addNil 5 1⟩)
      · have hp19 : ¬ (m < 0 ∨ (l.length : Int) < m) := fun h => by rw [hb19.2 h] at hc19; cases hc19
        obtain ⟨j, hj⟩ : ∃ j : Nat, m = (j : Int) := ⟨m.toNat, by omega⟩
        subst hj
        refine s_skip (x_then (s_seq (s_plain ?_)))
        refine p_val (e_move (v := .pointer _) rfl) rfl ?_
        refine p_val (e_nil rfl rfl) rfl ?_
        refine p_val (e_field rfl Try.underlying128 rfl sz47 (by decide)) rfl ?_
        refine p_val (e_loadF1 (i := 0) (off := 0) rfl ag47 S (j := 0) rfl rfl rfl (by first | with_reducible assumption | (simp [cat]; done) | (simp [cat]; omega) | rfl)) rfl ?_
        refine p_val (e_move (v := .int _ _) rfl) rfl ?_
        refine p_val (e_sl_h (j) rfl rfl (rfl) (by omega) Try.underlying47 sz5) rfl ?_
        have S := S.addNil 5 1
        refine p_does (d_append S 0 rfl rfl Try.underlying47 el5 rfl rfl (Rd.take_bv (S.rdOff R oR) (by omega)) (by first | exact bv_one _ | exact sv_one _ | exact iv_one _ | with_reducible assumption | (refine One.mem ?_; repeat (first | exact One.bv _ | exact One.sv _ | exact One.iv _ | exact One.nil | exact One.cat0 | refine One.cat1 ?_ ?_ | refine One.cons rfl ?_ | refine One.append ?_ ?_))) (by first | omega | (simp only [List.length_append, List.length_cons, List.length_nil, bv_length]; omega) | (simp [cat]; omega)) (by unfold maxLen; first | omega | (simp only [List.length_append, List.length_cons, List.length_nil, bv_length]; omega))) rfl ?_
        rintro _ w ⟨k28, c28, rfl, S⟩
        refine p_val (e_assign (v := .slice _ _ _) rfl) rfl ?_
        refine p_nil (x_then (s_seq (s_plain ?_)))
        refine p_val (e_move (v := .pointer _) rfl) rfl ?_
        refine p_val (e_move (v := .pointer _) rfl) rfl ?_
        refine p_val (e_nil rfl rfl) rfl ?_
        refine p_val (e_field rfl Try.underlying128 rfl sz47 (by decide)) rfl ?_
        refine p_val (e_loadF1 (i := 0) (off := 0) rfl ag47 S (j := 1) rfl rfl rfl (by first | with_reducible assumption | (simp [cat]; done) | (simp [cat]; omega) | rfl)) rfl ?_
        refine p_val (e_move (v := .int _ _) rfl) rfl ?_
        refine p_val (e_sl_l (j) rfl rfl (rfl) (by omega) Try.underlying47 sz5) rfl ?_
        refine p_val (e_nil rfl rfl) rfl ?_
        refine p_val (e_field rfl Try.underlying128 rfl sz47 (by decide)) rfl ?_
        refine p_does (d_storeF1 (v := .slice _ _ _) (off := 0) S 1 0 rfl rfl rfl sz47 rfl rfl rfl (by first | with_reducible assumption | (simp [cat]; done) | (simp [cat]; omega) | rfl)) rfl ?_
        intro _ w S
        refine p_nil (x_then (s_seq (s_plain ?_)))
        refine p_val (e_move (v := .slice _ _ _) rfl) rfl ?_
        refine p_val (e_assign (v := .slice _ _ _) rfl) rfl ?_
        refine p_nil (x_then (s_ret ?_))
        exact post1 (v := .slice _ _ _) Try.results74 rfl (⟨_, _, l.take j, _, _, _, _, by unfold rRaw; rw [if_pos rfl, if_neg hp19, Int.toNat_natCast], by rw [List.length_take, Nat.min_eq_left (by omega), Nat.zero_add], EyeTo.drop (m := j) (by omega) cR, by unfold eyeE; rw [List.length_drop, List.length_take, Nat.min_eq_left (by omega)]; have S := S.pk [0, 1] rfl; rw [Nat.zero_add] at S; exact S⟩)
theorem eye_text (w0 : World) (hb : Nat) (A : Option Addr) (c : Nat) (e m : Int) (l : List Nat) (S0 : St w0 w0 (exOf [some hb]) [some hb] [eyeE A c e l]) (R : Rd w0 1 A l.length (bv l)) (oR : Off A l.length (exOf [some hb])) (bR : Bytes l) (cR : l.length ≤ c) (nR : l.length ≤ 1099511000000) :
    Ret Try.prog 59 [.pointer (some ⟨hb, 0, none⟩), .int .i64 m] w0 fun v w' => ∃ k2 c2 s e1 l1 A1 c1, rText m e l = (s, e1, l1) ∧ v = .slice (at_ k2) (List.length s) c2 ∧ EyeTo A c l A1 c1 l1 ∧ St w0 w' (exOf [some hb]) [k2, some hb] [Rw 5 1 s.length c2 (bv s), eyeE A1 c1 e1 l1] := by
  refine enter Try.func59 rfl Try.ntmps59 (Nat.le_of_ble_eq_true rfl) ?_
  have S := S0
  refine s_seq (s_plain ?_)
  refine p_val (e_assign (v := .slice _ _ _) rfl) rfl ?_
  refine p_nil (x_then (s_seq (s_plain ?_)))
  refine p_val (e_move (v := .pointer _) rfl) rfl ?_
  refine p_val (e_move (v := .pointer _) rfl) rfl ?_
  refine p_val (e_move (v := .int _ _) rfl) rfl ?_
  refine p_does (d_call Try.func53 nm53 rfl rfl (eye_upto _ _ _ _ _ _ _ (S.hr [0] rfl) (S.rdOff R oR) (S.offOld [0] R (by decide) oR rfl) bR cR nR)) rfl ?_
  rintro _ w ⟨a8, e8, l8, A8, c8, q8, rfl, t8, T⟩
  have S := (S.call [0] T rfl).pk [0] rfl
  have R8 := t8.rd _ R
  have bR8 := t8.by_ bR
  have cR8 := t8.cap
  have nR8 := t8.len nR
  have oR8 := t8.off _ oR
  refine p_does (d_call Try.func74 nm74 rfl rfl (eye_raw _ _ _ _ _ _ _ (S.hr [0] rfl) (S.rdOff R8 oR8) (S.offOld [0] R8 (by decide) oR8 rfl) cR8 nR8)) rfl ?_
  rintro _ w ⟨k9, cc9, s9, e9, l9, A9, c9, q9, rfl, t9, T⟩
  have S := (S.call [0] T rfl).pk [0, 1] rfl
  have R9 := t9.rd _ R8
  have bR9 := t9.by_ bR8
  have cR9 := t9.cap
  have nR9 := t9.len nR8
  have oR9 := t9.off _ oR8
  refine p_val (e_assign (v := .slice _ _ _) rfl) rfl ?_
  refine p_nil (x_then (s_ret ?_))
  exact post1 (v := .slice _ _ _) Try.results59 rfl (⟨_, _, _, _, _, _, _, rText_of q8 q9, rfl, t8.trans t9, S⟩)
theorem eye_sum (w0 : World) (hb : Nat) (A : Option Addr) (c : Nat) (e : Int) (l : List Nat) (S0 : St w0 w0 (exOf [some hb]) [some hb] [eyeE A c e l]) (R : Rd w0 1 A l.length (bv l)) (oR : Off A l.length (exOf [some hb])) (bR : Bytes l) (cR : l.length ≤ c) (nR : l.length ≤ 1099511000000) :
    Ret Try.prog 54 [.pointer (some ⟨hb, 0, none⟩)] w0 fun v w' => ∃ s e1 l1 A1 c1, rSum e l = (s, e1, l1) ∧ List.length s = 32 ∧ v = .agg (bv s).toArray ∧ EyeTo A c l A1 c1 l1 ∧ St w0 w' (exOf [some hb]) [some hb] [eyeE A1 c1 e1 l1] := by
  refine enter Try.func54 rfl Try.ntmps54 (Nat.le_of_ble_eq_true rfl) ?_
  have S := S0
  refine s_seq (s_plain ?_)
  refine p_does (d_allocA S zvS) rfl ?_
  rintro _ w ⟨b2, rfl, S⟩
  refine p_nil (x_then (s_seq (s_plain ?_)))
  refine p_does (d_allocA S zvS) rfl ?_
  rintro _ w ⟨b3, rfl, S⟩
  refine p_nil (x_then (s_seq ?_))
  refine s_drawZ [(true, 0), (true, 1), (false, 2), (false, 3)] [] [] (fun _ => True) mixed (by kernel_rfl) (by repeat (first | exact Calm.post _ _ _ | refine Calm.then ?_ _ | refine Calm.inB ?_ _)) ?_
  have hS : True := trivial
  have S := S.drew
  refine q_val (fun w hS => e_sl_arr rfl Try.underlying44 sz5) rfl hS ?_
  refine q_val (fun w hS => e_move (v := .pointer _) rfl) rfl hS ?_
  refine q_does (d_call Try.func74 nm74 rfl rfl (eye_raw _ _ _ _ _ _ _ (S.hr [2] rfl) (S.rdOff R oR) (S.offOld [2] R (by decide) oR rfl) cR nR)) rfl ?_
  rintro _ w ⟨k6, cc6, s6, e6, l6, A6, c6, q6, rfl, t6, T⟩
  have S := (S.call [2] T rfl).pk [0, 2, 3, 1] rfl
  have R6 := t6.rd _ R
  have bR6 := t6.by_ bR
  have cR6 := t6.cap
  have nR6 := t6.len nR
  have oR6 := t6.off _ oR
  have hS := trivial
  refine ⟨hS, ?_⟩
  refine q_does (d_copy0 S 1 rfl rfl Try.underlying47 (by kernel_rfl) rfl rfl (S.rdRw 0 rfl rfl) (by first | exact bv_one _ | exact sv_one _ | exact iv_one _ | with_reducible assumption | (refine One.mem ?_; repeat (first | exact One.bv _ | exact One.sv _ | exact One.iv _ | exact One.nil | exact One.cat0 | refine One.cat1 ?_ ?_ | refine One.cons rfl ?_ | refine One.append ?_ ?_))) (by rw [List.size_toArray, bv_length, length_zsum]; omega)) rfl ?_
  rintro _ w ⟨rfl, S⟩
  have S := S.set1Ex 1 rfl (copy_sum32 (rRaw_len q6))
  have hS := trivial
  refine ⟨hS, ?_⟩
  refine q_nil (p_nil (x_then (s_seq (s_plain ?_))))
  refine p_val (e_loadW 1 rfl ag44 sz44 S rfl rfl (by first | with_reducible assumption | (simp [cat, length_zsum, length_sum32]; done) | (simp [cat, length_zsum, length_sum32]; omega) | rfl)) rfl ?_
  refine p_does (d_storeW S 2 rfl rfl (by first | exact bv_one _ | exact sv_one _ | exact iv_one _ | with_reducible assumption | (refine One.mem ?_; repeat (first | exact One.bv _ | exact One.sv _ | exact One.iv _ | exact One.nil | exact One.cat0 | refine One.cat1 ?_ ?_ | refine One.cons rfl ?_ | refine One.append ?_ ?_))) sz44 (by first | with_reducible assumption | (simp [cat, length_zsum, length_sum32]; done) | (simp [cat, length_zsum, length_sum32]; omega) | rfl) rfl rfl (by first | with_reducible assumption | (simp [cat, length_zsum, length_sum32]; done) | (simp [cat, length_zsum, length_sum32]; omega) | rfl)) rfl ?_
  intro _ w S
  refine p_nil (x_then (s_ret ?_))
  exact postC Try.results54 S 2 rfl rfl rfl ag44 sz44 (by first | with_reducible assumption | (simp [cat, length_zsum, length_sum32]; done) | (simp [cat, length_zsum, length_sum32]; omega) | rfl) (⟨_, _, _, _, _, rSum_of q6, length_sum32 _, rfl, t6, S.pk [3] rfl⟩)
theorem eye_done (w0 : World) (hb : Nat) (A : Option Addr) (c : Nat) (e : Int) (l : List Nat) (S0 : St w0 w0 (exOf [some hb]) [some hb] [eyeE A c e l]) :
    Ret Try.prog 55 [.pointer (some ⟨hb, 0, none⟩)] w0 fun v w' => v = .int .i64 (rDone e l) ∧ St w0 w' (exOf [some hb]) [some hb] [eyeE A c (rDone e l) l] := by
  refine enter Try.func55 rfl Try.ntmps55 (Nat.le_of_ble_eq_true rfl) ?_
  have S := S0
  refine s_seq (s_plain ?_)
  refine p_val (e_assign (v := .int _ _) rfl) rfl ?_
  refine p_nil (x_then (s_seq ?_))
  refine s_cutK (ks := [some hb]) (ps := [Ex _ _]) [(0, .pointer _)] ⟨rfl, trivial⟩ S (fun keep ks ps f' w' => ∃ u, f' = upds u (keep) ∧ St w0 w' (exOf [some hb]) [some hb] [eyeE A c (rDone e l) l]) ?_ ?_
  · refine s_seq ?_
    refine s_cutK (ks := [some hb]) (ps := [Ex _ _]) [(0, .pointer _)] ⟨rfl, trivial⟩ S (fun keep ks ps f' w' => ∃ u bb, f' = upds u ((13, .bool bb) :: keep) ∧ (bb = true ↔ (e = 0 ∧ 0 < l.length)) ∧ St w0 w' (exOf [some hb]) ks ps) ?_ ?_
    · refine s_plain ?_
      refine p_val (e_move (v := .pointer _) rfl) rfl ?_
      refine p_does (d_call Try.func73 nm73 rfl rfl (eye_err _ _ _ _ _ _ (S.hr [0] rfl))) rfl ?_
      rintro _ w ⟨rfl, rfl⟩
      refine p_valB (e_eql rfl rfl) rfl (fun hg5 => ?_) (fun hg5 => ?_)
      · refine p_val (e_move (v := .bool _) rfl) rfl ?_
        refine pg_val rfl rfl rfl rfl rfl (e_move (v := .pointer _) rfl) ?_
        refine pg_val rfl rfl rfl rfl rfl (e_nil rfl rfl) ?_
        refine pg_val rfl rfl rfl rfl rfl (e_field rfl Try.underlying128 rfl sz47 (by decide)) ?_
        refine pg_val rfl rfl rfl rfl rfl (e_loadF1 (i := 0) (off := 0) rfl ag47 S (j := 0) rfl rfl rfl (by first | with_reducible assumption | (simp [cat]; done) | (simp [cat]; omega) | rfl)) ?_
        refine pg_val rfl rfl rfl rfl rfl (e_len rfl Try.underlying47) ?_
        refine pg_val rfl rfl rfl rfl rfl (e_gtr rfl rfl) ?_
        refine p_val (e_pick_t rfl rfl) rfl ?_
        exact p_nil (x_then ⟨_, rfl, _, _, upds_eq ⟨rfl, rfl, trivial⟩, by first | (simp only [decide_eq_true_eq, eq_self, true_iff, iff_true, iff_false, Bool.false_eq_true, false_iff, ge_iff_le, gt_iff_lt, true_and, and_true, false_and, and_false, true_or, or_true, false_or, or_false, not_true_eq_false, not_false_eq_true]; omega) | simp | omega | simp_all, S⟩)
      · refine p_val (e_move (v := .bool _) rfl) rfl ?_
        refine p_no rfl rfl rfl rfl rfl ?_
        refine p_no rfl rfl rfl rfl rfl ?_
        refine p_no rfl rfl rfl rfl rfl ?_
        refine p_no rfl rfl rfl rfl rfl ?_
        refine p_no rfl rfl rfl rfl rfl ?_
        refine p_no rfl rfl rfl rfl rfl ?_
        refine p_val (e_pick_f rfl rfl) rfl ?_
        exact p_nil (x_then ⟨_, rfl, _, _, upds_eq ⟨rfl, rfl, trivial⟩, by first | (simp only [decide_eq_true_eq, eq_self, true_iff, iff_true, iff_false, Bool.false_eq_true, false_iff, ge_iff_le, gt_iff_lt, true_and, and_true, false_and, and_false, true_or, or_true, false_or, or_false, not_true_eq_false, not_false_eq_true]; omega) | simp | omega | simp_all, S⟩)
    · rintro f w ⟨u, b13, rfl, hb13, S⟩
      refine x_then ?_
      refine s_condb rfl (fun hc13 => ?_) (fun hc13 => ?_)
      · have hp13 : (e = 0 ∧ 0 < l.length) := hb13.1 hc13
        refine s_plain ?_
        refine p_val (e_move (v := .pointer _) rfl) rfl ?_
        refine p_does (d_call Try.func72 nm72 rfl rfl (eye_fail _ _ _ _ _ _ _ (S.hr [0] rfl))) rfl ?_
        rintro _ w ⟨rfl, T⟩
        have S := (S.call [0] T rfl).pk [0] rfl
        refine p_nil ?_
        exact x_then ⟨_, rfl, _, upds_eq ⟨rfl, trivial⟩, by unfold rDone; rw [if_pos hp13]; have S := S; rw [hp13.1] at S; exact S⟩
      · have hp13 : ¬ (e = 0 ∧ 0 < l.length) := fun h => by rw [hb13.2 h] at hc13; cases hc13
        refine s_skip ?_
        exact x_then ⟨_, rfl, _, upds_eq ⟨rfl, trivial⟩, by unfold rDone; rw [if_neg hp13]; exact S⟩
  · rintro f w ⟨u, rfl, S⟩
    refine x_then (s_seq (s_plain ?_))
    refine p_val (e_move (v := .pointer _) rfl) rfl ?_
    refine p_does (d_call Try.func73 nm73 rfl rfl (eye_err _ _ _ _ _ _ (S.hr [0] rfl))) rfl ?_
    rintro _ w ⟨rfl, rfl⟩
    refine p_val (e_assign (v := .int _ _) rfl) rfl ?_
    refine p_nil (x_then (s_ret ?_))
    exact post1 (v := .int _ _) Try.results55 rfl (⟨rfl, S⟩)
end Go.Proofs.Ytcgcjklpilbndaa
