/- Own texts, one behind the other: walks and laws that the statement needs. They prove no statement by themselves. -/
import Derived.Test.YtcgcjklpilbndaaZP29b2
/- What reads bytes. It proves no statement by itself. -/
set_option linter.unusedSimpArgs false
set_option linter.unusedVariables false
set_option maxRecDepth 100000
set_option maxHeartbeats 1000000
namespace Go.Proofs.Ytcgcjklpilbndaa
open Go Go.RowKit E
attribute [local irreducible] wpList seqH treeH
/-- an eye's block: what is left, the first error -/
abbrev eyeE (A : Option Addr) (c : Nat) (e : Int) (l : List Nat) : Option Obj → Prop := Ex (cat [[.slice A l.length c], [.int .i64 e]]).toArray 128
theorem eye_look (w0 : World) (A : Option Addr) (c : Nat) (l : List Nat) :
    Ret Try.prog 52 [.slice A l.length c] w0 fun v w' => ∃ hb, v = .pointer (some ⟨hb, 0, none⟩) ∧ St w0 w' [] [some hb] [eyeE A c 0 l] := by
  refine enter Try.func52 rfl Try.ntmps52 (Nat.le_of_ble_eq_true rfl) ?_
  have S := St.init w0
  refine s_seq (s_plain ?_)
  refine p_val (e_assign (v := .pointer _) rfl) rfl ?_
  refine p_nil (x_then (s_seq (s_plain ?_)))
  refine p_val (e_move (v := .slice _ _ _) rfl) rfl ?_
  refine p_val (e_buildS bt128 (Eq.trans (fill_cat (v := .slice _ _ _) (l' := [[_]]) 0 1 rfl (rfl) (by first | with_reducible assumption | (simp [cat]; done) | (simp [cat]; omega) | rfl) (by first | with_reducible assumption | (simp [cat]; done) | (simp [cat]; omega) | rfl) (by first | with_reducible assumption | (simp [cat]; done) | (simp [cat]; omega) | rfl)) rfl)) rfl ?_
  refine p_does (d_boxA S rfl) rfl ?_
  rintro _ w ⟨b5, rfl, S⟩
  refine p_val (e_assign (v := .pointer _) rfl) rfl ?_
  refine p_nil (x_then (s_ret ?_))
  exact post1 (v := .pointer _) Try.results52 rfl (⟨_, rfl, S⟩)
theorem eye_fail (w0 : World) (hb : Nat) (A : Option Addr) (c : Nat) (e x : Int) (l : List Nat) (S0 : St w0 w0 (exOf [some hb]) [some hb] [eyeE A c e l]) :
    Ret Try.prog 72 [.pointer (some ⟨hb, 0, none⟩), .int .i64 x] w0 fun v w' => v = .tuple #[] ∧ St w0 w' (exOf [some hb]) [some hb] [eyeE A c (rFail x e) l] := by
  refine enter Try.func72 rfl Try.ntmps72 (Nat.le_of_ble_eq_true rfl) ?_
  have S := S0
  refine s_seq ?_
  refine s_cutK (ks := [some hb]) (ps := [Ex _ _]) [(0, .pointer _), (1, .int _ _)] ⟨rfl, rfl, trivial⟩ S (fun keep ks ps f' w' => ∃ u bb, f' = upds u ((12, .bool bb) :: keep) ∧ (bb = true ↔ e = 0) ∧ St w0 w' (exOf [some hb]) ks ps) ?_ ?_
  · refine s_plain ?_
    refine p_val (e_move (v := .pointer _) rfl) rfl ?_
    refine p_valb (e_neqP rfl rfl Try.underlying108) rfl (fun hg5 => ?_) (fun hg5 => ?_)
    · refine p_val (e_move (v := .bool _) rfl) rfl ?_
      refine pg_val rfl rfl rfl rfl rfl (e_move (v := .pointer _) rfl) ?_
      refine pg_val rfl rfl rfl rfl rfl (e_nil rfl rfl) ?_
      refine pg_val rfl rfl rfl rfl rfl (e_field rfl Try.underlying128 rfl sz34 (by decide)) ?_
      refine pg_val rfl rfl rfl rfl rfl (e_loadF1 (i := 1) (off := 1) rfl ag34 S (j := 0) rfl rfl rfl (by first | with_reducible assumption | (simp [cat]; done) | (simp [cat]; omega) | rfl)) ?_
      refine pg_val rfl rfl rfl rfl rfl (e_eql rfl rfl) ?_
      refine p_val (e_pick_t rfl rfl) rfl ?_
      exact p_nil (x_then ⟨_, rfl, _, _, upds_eq ⟨rfl, rfl, rfl, trivial⟩, by first | (simp only [decide_eq_true_eq, eq_self, true_iff, iff_true, iff_false, Bool.false_eq_true, false_iff, ge_iff_le, gt_iff_lt, true_and, and_true, false_and, and_false, true_or, or_true, false_or, or_false, not_true_eq_false, not_false_eq_true]; omega) | simp | omega | simp_all, S⟩)
    · exact False.elim (by simp at hg5)
  · rintro f w ⟨u, b12, rfl, hb12, S⟩
    refine x_then ?_
    refine s_condb rfl (fun hc12 => ?_) (fun hc12 => ?_)
    · have hp12 : e = 0 := hb12.1 hc12
      refine s_plain ?_
      refine p_val (e_move (v := .pointer _) rfl) rfl ?_
      refine p_val (e_move (v := .int _ _) rfl) rfl ?_
      refine p_val (e_nil rfl rfl) rfl ?_
      refine p_val (e_field rfl Try.underlying128 rfl sz34 (by decide)) rfl ?_
      refine p_does (d_storeF1 (v := .int _ _) (off := 1) S 0 1 rfl rfl rfl sz34 rfl rfl rfl (by first | with_reducible assumption | (simp [cat]; done) | (simp [cat]; omega) | rfl)) rfl ?_
      intro _ w S
      refine p_nil (post_end ?_)
      exact post0 Try.results72 (⟨rfl, by unfold rFail; rw [if_pos hp12]; exact S⟩)
    · have hp12 : ¬ e = 0 := fun h => by rw [hb12.2 h] at hc12; cases hc12
      refine s_skip (post_end ?_)
      exact post0 Try.results72 (⟨rfl, by unfold rFail; rw [if_neg hp12]; exact S⟩)
theorem eye_err (w0 : World) (hb : Nat) (A : Option Addr) (c : Nat) (e : Int) (l : List Nat) (S0 : St w0 w0 (exOf [some hb]) [some hb] [eyeE A c e l]) :
    Ret Try.prog 73 [.pointer (some ⟨hb, 0, none⟩)] w0 fun v w' => v = .int .i64 e ∧ w0 = w' := by
  refine enter Try.func73 rfl Try.ntmps73 (Nat.le_of_ble_eq_true rfl) ?_
  have S := S0
  refine s_seq (s_plain ?_)
  refine p_val (e_assign (v := .int _ _) rfl) rfl ?_
  refine p_nil (x_then (s_seq (s_seq (s_plain ?_))))
  refine p_val (e_move (v := .pointer _) rfl) rfl ?_
  refine p_val (e_eqlP rfl rfl Try.underlying108) rfl ?_
  refine p_nil (x_then ?_)
  refine s_condb rfl (fun hc4 => ?_) (fun hc4 => ?_)
  · exact False.elim (by simp at hc4)
  · refine s_skip (x_then (s_seq (s_plain ?_)))
    refine p_val (e_move (v := .pointer _) rfl) rfl ?_
    refine p_val (e_nil rfl rfl) rfl ?_
    refine p_val (e_field rfl Try.underlying128 rfl sz34 (by decide)) rfl ?_
    refine p_val (e_loadF1 (i := 1) (off := 1) rfl ag34 S (j := 0) rfl rfl rfl (by first | with_reducible assumption | (simp [cat]; done) | (simp [cat]; omega) | rfl)) rfl ?_
    refine p_val (e_assign (v := .int _ _) rfl) rfl ?_
    refine p_nil (x_then (s_ret ?_))
    exact post1 (v := .int _ _) Try.results73 rfl (⟨rfl, rfl⟩)
theorem eye_num (w0 : World) (hb : Nat) (A : Option Addr) (c : Nat) (e : Int) (l : List Nat) (S0 : St w0 w0 (exOf [some hb]) [some hb] [eyeE A c e l]) (R : Rd w0 1 A l.length (bv l)) (oR : Off A l.length (exOf [some hb])) (bR : Bytes l) (cR : l.length ≤ c) (nR : l.length ≤ 1099511000000) :
    Ret Try.prog 71 [.pointer (some ⟨hb, 0, none⟩)] w0 fun v w' => ∃ a e1 l1 A1 c1, rNum e l = (a, e1, l1) ∧ v = .int .i64 a ∧ EyeTo A c l A1 c1 l1 ∧ St w0 w' (exOf [some hb]) [some hb] [eyeE A1 c1 e1 l1] := by
  refine enter Try.func71 rfl Try.ntmps71 (Nat.le_of_ble_eq_true rfl) ?_
  have S := S0
  refine s_seq (s_plain ?_)
  refine p_val (e_assign (v := .int _ _) rfl) rfl ?_
  refine p_nil (x_then (s_seq (s_seq (s_plain ?_))))
  refine p_val (e_move (v := .pointer _) rfl) rfl ?_
  refine p_does (d_call Try.func73 nm73 rfl rfl (eye_err _ _ _ _ _ _ (S.hr [0] rfl))) rfl ?_
  rintro _ w ⟨rfl, rfl⟩
  refine p_val (e_neq rfl rfl) rfl ?_
  refine p_nil (x_then ?_)
  refine s_cond rfl (fun hc8 => ?_) (fun hc8 => ?_)
  · refine s_seq (s_plain ?_)
    refine p_val (e_assign (v := .int _ _) rfl) rfl ?_
    refine p_nil (x_then (s_ret (x_then_ret ?_)))
    exact post1 (v := .int _ _) Try.results71 rfl (⟨_, _, _, _, _, rNum_no hc8 l, rfl, EyeTo.refl cR, S⟩)
  · obtain rfl : e = 0 := Classical.not_not.1 hc8
    refine s_skip (x_then (s_seq (s_plain ?_)))
    refine p_val (e_assign (v := .int _ _) rfl) rfl ?_
    refine p_nil (x_then (s_seq (s_seq (s_plain ?_))))
    refine p_val (e_move (v := .int _ _) rfl) rfl ?_
    refine p_nil (x_then (s_block ?_))
    refine s_loopK (α := Nat) (ks := [some hb]) (ps := [Ex _ _]) [(0, .pointer _)] ⟨rfl, trivial⟩ S (fun keep ks ps g f' w' => ∃ u v, f' = upds u ((3, .int .u64 ((v : Nat) : Int)) :: (9, .int .i64 (g : Int)) :: keep) ∧ (g ≤ 9) ∧ (g ≤ l.length) ∧ (v < 128 ^ g) ∧ (rn 9 0 0 l = rn (9 - g) g v (l.drop g)) ∧ St w0 w' (exOf [some hb]) [some hb] [eyeE A c 0 l]) (fun g => 9 - g) (0) (⟨_, 0, upds_eq ⟨rfl, rfl, rfl, trivial⟩, by first | omega | rfl | with_reducible assumption | (simp; done) | (simp; omega), by first | omega | rfl | with_reducible assumption | (simp; done) | (simp; omega), by decide, by rw [List.drop_zero], S⟩) ?_
    rintro g f w ⟨u, v, rfl, hg, hgl, hv, hr, S⟩
    refine s_seq (s_plain ?_)
    refine p_val (e_lss rfl rfl) rfl ?_
    refine p_nil (x_then (s_seq ?_))
    refine s_cond rfl (fun hc10 => ?_) (fun hc10 => ?_)
    · refine s_skip (x_then (s_seq (s_block (s_seq (s_plain ?_)))))
      refine p_val (e_move (v := .int _ _) rfl) rfl ?_
      refine p_val (e_assign (v := .int _ _) rfl) rfl ?_
      refine p_nil (x_then (s_seq (s_seq (s_plain ?_))))
      refine p_val (e_move (v := .int _ _) rfl) rfl ?_
      refine p_val (e_move (v := .pointer _) rfl) rfl ?_
      refine p_val (e_nil rfl rfl) rfl ?_
      refine p_val (e_field rfl Try.underlying128 rfl sz47 (by decide)) rfl ?_
      refine p_val (e_loadF1 (i := 0) (off := 0) rfl ag47 S (j := 0) rfl rfl rfl (by first | with_reducible assumption | (simp [cat]; done) | (simp [cat]; omega) | rfl)) rfl ?_
      refine p_val (e_len rfl Try.underlying47) rfl ?_
      refine p_val (e_geq rfl rfl) rfl ?_
      refine p_nil (x_then ?_)
      refine s_cond rfl (fun hc18 => ?_) (fun hc18 => ?_)
      · have e9 : rn 9 0 0 l = .inl 2 := by
          rw [hr, List.drop_of_length_le (by omega), show 9 - g = (8 - g) + 1 by omega]
          rfl
        refine s_seq (s_plain ?_)
        refine p_val (e_move (v := .pointer _) rfl) rfl ?_
        refine p_does (d_call Try.func72 nm72 rfl rfl (eye_fail _ _ _ _ _ _ _ (S.hr [0] rfl))) rfl ?_
        rintro _ w ⟨rfl, T⟩
        have S := (S.call [0] T rfl).pk [0] rfl
        refine p_nil (x_then (s_seq (s_plain ?_)))
        refine p_val (e_assign (v := .int _ _) rfl) rfl ?_
        refine p_nil (x_then (s_ret (x_then_ret (x_in_ret (x_then_ret (x_then_ret (x_in_ret (x_then_ret ?_))))))))
        exact post1 (v := .int _ _) Try.results71 rfl (⟨_, _, _, _, _, rNum_inl e9, rfl, EyeTo.refl cR, S⟩)
      · refine s_skip (x_then (s_seq (s_plain ?_)))
        have hcb := bytes_getD bR (g : Int).toNat
        have hdc : l.drop g = l.getD (g : Int).toNat 0 :: l.drop (g + 1) := by rw [Int.toNat_natCast]; exact drop_cons (by omega)
        have hp8 := pow128 (g := g) (by omega)
        have hm8 := mul128 (c := l.getD (g : Int).toNat 0) (g := g) (by omega)
        refine p_val (e_move (v := .pointer _) rfl) rfl ?_
        refine p_val (e_nil rfl rfl) rfl ?_
        refine p_val (e_field rfl Try.underlying128 rfl sz47 (by decide)) rfl ?_
        refine p_val (e_loadF1 (i := 0) (off := 0) rfl ag47 S (j := 0) rfl rfl rfl (by first | with_reducible assumption | (simp [cat]; done) | (simp [cat]; omega) | rfl)) rfl ?_
        refine p_val (e_move (v := .int _ _) rfl) rfl ?_
        refine p_val (e_ixR (S.rdOff R oR) (by decide) rfl rfl Try.underlying47 sz5 (by omega)) rfl ?_
        refine p_val (e_loadRb rfl ag5 (S.rdOff R oR) (by omega)) rfl ?_
        refine p_val (e_assign (v := .int _ _) rfl) rfl ?_
        refine p_nil (x_then (s_seq (s_plain ?_)))
        refine p_val (e_move (v := .int _ _) rfl) rfl ?_
        refine p_val (e_move (v := .int _ _) rfl) rfl ?_
        refine p_val (e_and8 (n := 127) rfl rfl (by omega) (by omega)) rfl ?_
        refine p_val (e_convU64 rfl Try.underlying5 (by simp) Try.underlying130) rfl ?_
        refine p_val (e_move (v := .int _ _) rfl) rfl ?_
        refine p_val (e_mul64 rfl rfl (by omega)) rfl ?_
        refine p_val (e_shlU64 (7 * g) rfl rfl (by omega)) rfl ?_
        refine p_val (e_or64 rfl rfl (by omega) (Nat.mod_lt _ (by decide))) rfl ?_
        refine p_val (e_assign (v := .int _ _) rfl) rfl ?_
        refine p_nil ?_
        rw [or_step hv (by omega)]
        refine x_then (s_seq (s_plain ?_))
        refine p_val (e_move (v := .int _ _) rfl) rfl ?_
        refine p_val (e_lss rfl rfl) rfl ?_
        refine p_nil (x_then ?_)
        refine s_cond rfl (fun hc37 => ?_) (fun hc37 => ?_)
        · refine s_seq (s_seq ?_)
          refine s_cutK (ks := [some hb]) (ps := [Ex _ _]) [(0, .pointer _), (3, .int _ _), (4, .int _ _)] ⟨rfl, rfl, rfl, trivial⟩ S (fun keep ks ps f' w' => ∃ u bb, f' = upds u ((43, .bool bb) :: keep) ∧ (bb = true ↔ (l.getD (g : Int).toNat 0 = 0 ∧ 0 < g)) ∧ St w0 w' (exOf [some hb]) ks ps) ?_ ?_
          · refine s_plain ?_
            refine p_val (e_move (v := .int _ _) rfl) rfl ?_
            refine p_valB (e_eql rfl rfl) rfl (fun hg39 => ?_) (fun hg39 => ?_)
            · refine p_val (e_move (v := .bool _) rfl) rfl ?_
              refine pg_val rfl rfl rfl rfl rfl (e_move (v := .int _ _) rfl) ?_
              refine pg_val rfl rfl rfl rfl rfl (e_gtr rfl rfl) ?_
              refine p_val (e_pick_t rfl rfl) rfl ?_
              exact p_nil (x_then ⟨_, rfl, _, _, upds_eq ⟨rfl, rfl, rfl, rfl, trivial⟩, by first | (simp only [decide_eq_true_eq, eq_self, true_iff, iff_true, iff_false, Bool.false_eq_true, false_iff, ge_iff_le, gt_iff_lt, true_and, and_true, false_and, and_false, true_or, or_true, false_or, or_false, not_true_eq_false, not_false_eq_true]; omega) | simp | omega | simp_all, S⟩)
            · refine p_val (e_move (v := .bool _) rfl) rfl ?_
              refine p_no rfl rfl rfl rfl rfl ?_
              refine p_no rfl rfl rfl rfl rfl ?_
              refine p_val (e_pick_f rfl rfl) rfl ?_
              exact p_nil (x_then ⟨_, rfl, _, _, upds_eq ⟨rfl, rfl, rfl, rfl, trivial⟩, by first | (simp only [decide_eq_true_eq, eq_self, true_iff, iff_true, iff_false, Bool.false_eq_true, false_iff, ge_iff_le, gt_iff_lt, true_and, and_true, false_and, and_false, true_or, or_true, false_or, or_false, not_true_eq_false, not_false_eq_true]; omega) | simp | omega | simp_all, S⟩)
          · rintro f w ⟨u, b43, rfl, hb43, S⟩
            refine x_then ?_
            refine s_condb rfl (fun hc43 => ?_) (fun hc43 => ?_)
            · have hp43 : (l.getD (g : Int).toNat 0 = 0 ∧ 0 < g) := hb43.1 hc43
              have e9 : rn 9 0 0 l = .inl 4 := by
                rw [hr, hdc, show 9 - g = (8 - g) + 1 by omega]
                show (if _ then (if _ then _ else _) else _) = _
                rw [if_pos (by omega), if_pos hp43]
              refine s_seq (s_plain ?_)
              refine p_val (e_move (v := .pointer _) rfl) rfl ?_
              refine p_does (d_call Try.func72 nm72 rfl rfl (eye_fail _ _ _ _ _ _ _ (S.hr [0] rfl))) rfl ?_
              rintro _ w ⟨rfl, T⟩
              have S := (S.call [0] T rfl).pk [0] rfl
              refine p_nil (x_then (s_seq (s_plain ?_)))
              refine p_val (e_assign (v := .int _ _) rfl) rfl ?_
              refine p_nil (x_then (s_ret (x_then_ret (x_in_ret (x_then_ret (x_then_ret (x_in_ret (x_then_ret ?_))))))))
              exact post1 (v := .int _ _) Try.results71 rfl (⟨_, _, _, _, _, rNum_inl e9, rfl, EyeTo.refl cR, S⟩)
            · have hp43 : ¬ (l.getD (g : Int).toNat 0 = 0 ∧ 0 < g) := fun h => by rw [hb43.2 h] at hc43; cases hc43
              have e9 : rn 9 0 0 l = .inr (v + l.getD (g : Int).toNat 0 % 128 * 128 ^ g, l.drop (g + 1)) := by
                rw [hr, hdc, show 9 - g = (8 - g) + 1 by omega]
                show (if _ then (if _ then _ else _) else _) = _
                rw [if_pos (by omega), if_neg hp43]
              refine s_skip (x_then (s_seq (s_plain ?_)))
              refine p_val (e_move (v := .pointer _) rfl) rfl ?_
              refine p_val (e_move (v := .pointer _) rfl) rfl ?_
              refine p_val (e_nil rfl rfl) rfl ?_
              refine p_val (e_field rfl Try.underlying128 rfl sz47 (by decide)) rfl ?_
              refine p_val (e_loadF1 (i := 0) (off := 0) rfl ag47 S (j := 0) rfl rfl rfl (by first | with_reducible assumption | (simp [cat]; done) | (simp [cat]; omega) | rfl)) rfl ?_
              refine p_val (e_move (v := .int _ _) rfl) rfl ?_
              refine p_val (e_add64 rfl rfl (by omega)) rfl ?_
              refine p_val (e_sl_l (g + 1) rfl rfl (rfl) (by omega) Try.underlying47 sz5) rfl ?_
              refine p_val (e_nil rfl rfl) rfl ?_
              refine p_val (e_field rfl Try.underlying128 rfl sz47 (by decide)) rfl ?_
              refine p_does (d_storeF1 (v := .slice _ _ _) (off := 0) S 0 0 rfl rfl rfl sz47 rfl rfl rfl (by first | with_reducible assumption | (simp [cat]; done) | (simp [cat]; omega) | rfl)) rfl ?_
              intro _ w S
              refine p_nil (x_then (s_seq (s_plain ?_)))
              refine p_val (e_move (v := .int _ _) rfl) rfl ?_
              refine p_val (e_conv_in rfl Try.underlying130 (by simp) Try.underlying3 (IntWalk.i64_in _ (by omega))) rfl ?_
              refine p_val (e_assign (v := .int _ _) rfl) rfl ?_
              refine p_nil (x_then (s_ret (x_in_ret (x_then_ret (x_then_ret (x_in_ret (x_then_ret ?_)))))))
              exact post1 (v := .int _ _) Try.results71 rfl (⟨_, _, _, _, _, rNum_inr e9, rfl, EyeTo.drop (m := g + 1) (by omega) cR, by unfold eyeE; rw [List.length_drop]; exact S⟩)
        · refine s_skip (x_in (x_then (s_plain ?_)))
          refine p_val (e_add64 rfl rfl (by omega)) rfl ?_
          refine p_val (e_move (v := .int _ _) rfl) rfl ?_
          refine p_nil ?_
          refine x_round (g + 1) _ rfl ⟨_, _, upds_eq ⟨rfl, rfl, rfl, trivial⟩, by first | omega | rfl | with_reducible assumption | (simp; done) | (simp; omega), by first | omega | rfl | with_reducible assumption | (simp; done) | (simp; omega), next128 hv, by rw [hr, hdc, show 9 - g = (8 - g) + 1 by omega, show 9 - (g + 1) = 8 - g by omega]; show (if _ then _ else _) = _; rw [if_neg (by omega)], S⟩ (by omega)
    · refine s_exit (x_then_exit (x_then_exit (x_in_same (x_then (s_seq (s_plain ?_))))))
      refine p_val (e_move (v := .pointer _) rfl) rfl ?_
      refine p_does (d_call Try.func72 nm72 rfl rfl (eye_fail _ _ _ _ _ _ _ (S.hr [0] rfl))) rfl ?_
      rintro _ w ⟨rfl, T⟩
      have S := (S.call [0] T rfl).pk [0] rfl
      refine p_nil (x_then (s_seq (s_plain ?_)))
      refine p_val (e_assign (v := .int _ _) rfl) rfl ?_
      refine p_nil (x_then (s_ret ?_))
      exact post1 (v := .int _ _) Try.results71 rfl (⟨_, _, _, _, _, rNum_inl (x := 5) (by rw [hr, show 9 - g = 0 by omega]; rfl), rfl, EyeTo.refl cR, S⟩)
theorem eye_upto (w0 : World) (hb : Nat) (A : Option Addr) (c : Nat) (e m : Int) (l : List Nat) (S0 : St w0 w0 (exOf [some hb]) [some hb] [eyeE A c e l]) (R : Rd w0 1 A l.length (bv l)) (oR : Off A l.length (exOf [some hb])) (bR : Bytes l) (cR : l.length ≤ c) (nR : l.length ≤ 1099511000000) :
    Ret Try.prog 53 [.pointer (some ⟨hb, 0, none⟩), .int .i64 m] w0 fun v w' => ∃ a e1 l1 A1 c1, rUpto m e l = (a, e1, l1) ∧ v = .int .i64 a ∧ EyeTo A c l A1 c1 l1 ∧ St w0 w' (exOf [some hb]) [some hb] [eyeE A1 c1 e1 l1] := by
  refine enter Try.func53 rfl Try.ntmps53 (Nat.le_of_ble_eq_true rfl) ?_
  have S := S0
  refine s_seq (s_plain ?_)
  refine p_val (e_assign (v := .int _ _) rfl) rfl ?_
  refine p_nil (x_then (s_seq (s_plain ?_)))
  refine p_val (e_move (v := .pointer _) rfl) rfl ?_
  refine p_does (d_call Try.func71 nm71 rfl rfl (eye_num _ _ _ _ _ _ (S.hr [0] rfl) (S.rdOff R oR) (S.offOld [0] R (by decide) oR rfl) bR cR nR)) rfl ?_
  rintro _ w ⟨a7, e7, l7, A7, c7, q7, rfl, t7, T⟩
  have S := (S.call [0] T rfl).pk [0] rfl
  have R7 := t7.rd _ R
  have bR7 := t7.by_ bR
  have cR7 := t7.cap
  have nR7 := t7.len nR
  have oR7 := t7.off _ oR
  refine p_val (e_assign (v := .int _ _) rfl) rfl ?_
  refine p_nil (x_then (s_seq ?_))
  refine s_cutK (ks := [some hb]) (ps := [Ex _ _]) [(0, .pointer _), (5, .int _ _)] ⟨rfl, rfl, trivial⟩ S (fun keep ks ps f' w' => ∃ u e2, f' = upds u (keep) ∧ (e2 = if m < a7 then rFail 5 e7 else e7) ∧ St w0 w' (exOf [some hb]) [some hb] [eyeE A7 c7 e2 l7]) ?_ ?_
  · refine s_seq (s_plain ?_)
    refine p_val (e_move (v := .int _ _) rfl) rfl ?_
    refine p_val (e_move (v := .int _ _) rfl) rfl ?_
    refine p_val (e_gtr rfl rfl) rfl ?_
    refine p_nil (x_then ?_)
    refine s_cond rfl (fun hc10 => ?_) (fun hc10 => ?_)
    · refine s_plain ?_
      refine p_val (e_move (v := .pointer _) rfl) rfl ?_
      refine p_does (d_call Try.func72 nm72 rfl rfl (eye_fail _ _ _ _ _ _ _ (S.hr [0] rfl))) rfl ?_
      rintro _ w ⟨rfl, T⟩
      have S := (S.call [0] T rfl).pk [0] rfl
      refine p_nil ?_
      exact x_then ⟨_, rfl, _, _, upds_eq ⟨rfl, rfl, trivial⟩, by rw [if_pos hc10], S⟩
    · refine s_skip ?_
      exact x_then ⟨_, rfl, _, _, upds_eq ⟨rfl, rfl, trivial⟩, by rw [if_neg hc10], S⟩
  · rintro f w ⟨u, e2, rfl, he2, S⟩
    refine x_then (s_seq (s_seq (s_plain ?_)))
    refine p_val (e_move (v := .pointer _) rfl) rfl ?_
    refine p_does (d_call Try.func73 nm73 rfl rfl (eye_err _ _ _ _ _ _ (S.hr [0] rfl))) rfl ?_
    rintro _ w ⟨rfl, rfl⟩
    refine p_val (e_neq rfl rfl) rfl ?_
    refine p_nil (x_then ?_)
    refine s_cond rfl (fun hc15 => ?_) (fun hc15 => ?_)
    · refine s_seq (s_plain ?_)
      refine p_val (e_assign (v := .int _ _) rfl) rfl ?_
      refine p_nil (x_then (s_ret (x_then_ret ?_)))
      exact post1 (v := .int _ _) Try.results53 rfl (⟨_, _, _, _, _, rUpto_of q7 he2, by rw [if_neg hc15], t7, S⟩)
    · refine s_skip (x_then (s_seq (s_plain ?_)))
      refine p_val (e_move (v := .int _ _) rfl) rfl ?_
      refine p_val (e_assign (v := .int _ _) rfl) rfl ?_
      refine p_nil (x_then (s_ret ?_))
      exact post1 (v := .int _ _) Try.results53 rfl (⟨_, _, _, _, _, rUpto_of q7 he2, by rw [if_pos (Classical.not_not.1 hc15)], t7, S⟩)
theorem eye_raw (w0 : World) (hb : Nat) (A : Option Addr) (c : Nat) (e m : Int) (l : List Nat) (S0 : St w0 w0 (exOf [some hb]) [some hb] [eyeE A c e l]) (R : Rd w0 1 A l.length (bv l)) (oR : Off A l.length (exOf [some hb])) (cR : l.length ≤ c) (nR : l.length ≤ 1099511000000) :
    Ret Try.prog 74 [.pointer (some ⟨hb, 0, none⟩), .int .i64 m] w0 fun v w' => ∃ k2 c2 s e1 l1 A1 c1, rRaw m e l = (s, e1, l1) ∧ v = .slice (at_ k2) (List.length s) c2 ∧ EyeTo A c l A1 c1 l1 ∧ St w0 w' (exOf [some hb]) [k2, some hb] [Rw 5 1 s.length c2 (bv s), eyeE A1 c1 e1 l1] := by
  refine enter Try.func74 rfl Try.ntmps74 (Nat.le_of_ble_eq_true rfl) ?_
  have S := S0
  refine s_seq (s_plain ?_)
  refine p_val (e_assign (v := .slice _ _ _) rfl) rfl ?_
  refine p_nil (x_then (s_seq (s_seq (s_plain ?_))))
  refine p_val (e_move (v := .pointer _) rfl) rfl ?_
  refine p_does (d_call Try.func73 nm73 rfl rfl (eye_err _ _ _ _ _ _ (S.hr [0] rfl))) rfl ?_
  rintro _ w ⟨rfl, rfl⟩
  refine p_val (e_neq rfl rfl) rfl ?_
  refine p_nil (x_then ?_)
  refine s_cond rfl (fun hc8 => ?_) (fun hc8 => ?_)
  · refine s_seq (s_plain ?_)
    refine p_val (e_assign (v := .slice _ _ _) rfl) rfl ?_
    refine p_nil (x_then (s_ret (x_then_ret ?_)))
    exact post1 (v := .slice _ _ _) Try.results74 rfl (⟨none, 0, [], _, _, _, _, by unfold rRaw; rw [if_neg hc8], rfl, EyeTo.refl cR, S.addNil 5 1⟩)
  · obtain rfl : e = 0 := Classical.not_not.1 hc8
    refine s_skip (x_then (s_seq (s_seq ?_)))
    refine s_cutK (ks := [some hb]) (ps := [Ex _ _]) [(0, .pointer _), (1, .int _ _)] ⟨rfl, rfl, trivial⟩ S (fun keep ks ps f' w' => ∃ u bb, f' = upds u ((19, .bool bb) :: keep) ∧ (bb = true ↔ (m < 0 ∨ (l.length : Int) < m)) ∧ St w0 w' (exOf [some hb]) ks ps) ?_ ?_
    · refine s_plain ?_
      refine p_val (e_move (v := .int _ _) rfl) rfl ?_
      refine p_valB (e_lss rfl rfl) rfl (fun hg10 => ?_) (fun hg10 => ?_)
      · refine p_val (e_move (v := .bool _) rfl) rfl ?_
        refine p_no rfl rfl rfl rfl rfl ?_
        refine p_no rfl rfl rfl rfl rfl ?_
        refine p_no rfl rfl rfl rfl rfl ?_
        refine p_no rfl rfl rfl rfl rfl ?_
        refine p_no rfl rfl rfl rfl rfl ?_
        refine p_no rfl rfl rfl rfl rfl ?_
        refine p_no rfl rfl rfl rfl rfl ?_
        refine p_val (e_pick_t rfl rfl) rfl ?_
        exact p_nil (x_then ⟨_, rfl, _, _, upds_eq ⟨rfl, rfl, rfl, trivial⟩, by first | (simp only [decide_eq_true_eq, eq_self, true_iff, iff_true, iff_false, Bool.false_eq_true, false_iff, ge_iff_le, gt_iff_lt, true_and, and_true, false_and, and_false, true_or, or_true, false_or, or_false, not_true_eq_false, not_false_eq_true]; omega) | simp | omega | simp_all, S⟩)
      · refine p_val (e_move (v := .bool _) rfl) rfl ?_
        refine pg_val rfl rfl rfl rfl rfl (e_move (v := .int _ _) rfl) ?_
        refine pg_val rfl rfl rfl rfl rfl (e_move (v := .pointer _) rfl) ?_
        refine pg_val rfl rfl rfl rfl rfl (e_nil rfl rfl) ?_
        refine pg_val rfl rfl rfl rfl rfl (e_field rfl Try.underlying128 rfl sz47 (by decide)) ?_
        refine pg_val rfl rfl rfl rfl rfl (e_loadF1 (i := 0) (off := 0) rfl ag47 S (j := 0) rfl rfl rfl (by first | with_reducible assumption | (simp [cat]; done) | (simp [cat]; omega) | rfl)) ?_
        refine pg_val rfl rfl rfl rfl rfl (e_len rfl Try.underlying47) ?_
        refine pg_val rfl rfl rfl rfl rfl (e_gtr rfl rfl) ?_
        refine p_val (e_pick_f rfl rfl) rfl ?_
        exact p_nil (x_then ⟨_, rfl, _, _, upds_eq ⟨rfl, rfl, rfl, trivial⟩, by first | (simp only [decide_eq_true_eq, eq_self, true_iff, iff_true, iff_false, Bool.false_eq_true, false_iff, ge_iff_le, gt_iff_lt, true_and, and_true, false_and, and_false, true_or, or_true, false_or, or_false, not_true_eq_false, not_false_eq_true]; omega) | simp | omega | simp_all, S⟩)
    · rintro f w ⟨u, b19, rfl, hb19, S⟩
      refine x_then ?_
      refine s_condb rfl (fun hc19 => ?_) (fun hc19 => ?_)
      · have hp19 : (m < 0 ∨ (l.length : Int) < m) := hb19.1 hc19
        refine s_seq (s_plain ?_)
        refine p_val (e_move (v := .pointer _) rfl) rfl ?_
        refine p_does (d_call Try.func72 nm72 rfl rfl (eye_fail _ _ _ _ _ _ _ (S.hr [0] rfl))) rfl ?_
        rintro _ w ⟨rfl, T⟩
        have S := (S.call [0] T rfl).pk [0] rfl
        refine p_nil (x_then (s_seq (s_plain ?_)))
        refine p_val (e_assign (v := .slice _ _ _) rfl) rfl ?_
        refine p_nil (x_then (s_ret (x_then_ret ?_)))
        exact post1 (v := .slice _ _ _) Try.results74 rfl (⟨none, 0, [], _, _, _, _, by unfold rRaw; rw [if_pos rfl, if_pos hp19]; rfl, rfl, EyeTo.refl cR, S.addNil 5 1⟩)
      · have hp19 : ¬ (m < 0 ∨ (l.length : Int) < m) := fun h => by rw [hb19.2 h] at hc19; cases hc19
        obtain ⟨j, hj⟩ : ∃ j : Nat, m = (j : Int) := ⟨m.toNat, by omega⟩
        subst hj
        refine s_skip (x_then (s_seq (s_plain ?_)))
        refine p_val (e_move (v := .pointer _) rfl) rfl ?_
        refine p_val (e_nil rfl rfl) rfl ?_
        refine p_val (e_field rfl Try.underlying128 rfl sz47 (by decide)) rfl ?_
        refine p_val (e_loadF1 (i := 0) (off := 0) rfl ag47 S (j := 0) rfl rfl rfl (by first | with_reducible assumption | (simp [cat]; done) | (simp [cat]; omega) | rfl)) rfl ?_
        refine p_val (e_move (v := .int _ _) rfl) rfl ?_
        refine p_val (e_sl_h (j) rfl rfl (rfl) (by omega) Try.underlying47 sz5) rfl ?_
        have S := S.addNil 5 1
        refine p_does (d_append S 0 rfl rfl Try.underlying47 el5 rfl rfl (Rd.take_bv (S.rdOff R oR) (by omega)) (by first | exact bv_one _ | exact sv_one _ | exact iv_one _ | with_reducible assumption | (refine One.mem ?_; repeat (first | exact One.bv _ | exact One.sv _ | exact One.iv _ | exact One.nil | exact One.cat0 | refine One.cat1 ?_ ?_ | refine One.cons rfl ?_ | refine One.append ?_ ?_))) (by first | omega | (simp only [List.length_append, List.length_cons, List.length_nil, bv_length]; omega) | (simp [cat]; omega)) (by unfold maxLen; first | omega | (simp only [List.length_append, List.length_cons, List.length_nil, bv_length]; omega))) rfl ?_
        rintro _ w ⟨k28, c28, rfl, S⟩
        refine p_val (e_assign (v := .slice _ _ _) rfl) rfl ?_
        refine p_nil (x_then (s_seq (s_plain ?_)))
        refine p_val (e_move (v := .pointer _) rfl) rfl ?_
        refine p_val (e_move (v := .pointer _) rfl) rfl ?_
        refine p_val (e_nil rfl rfl) rfl ?_
        refine p_val (e_field rfl Try.underlying128 rfl sz47 (by decide)) rfl ?_
        refine p_val (e_loadF1 (i := 0) (off := 0) rfl ag47 S (j := 1) rfl rfl rfl (by first | with_reducible assumption | (simp [cat]; done) | (simp [cat]; omega) | rfl)) rfl ?_
        refine p_val (e_move (v := .int _ _) rfl) rfl ?_
        refine p_val (e_sl_l (j) rfl rfl (rfl) (by omega) Try.underlying47 sz5) rfl ?_
        refine p_val (e_nil rfl rfl) rfl ?_
        refine p_val (e_field rfl Try.underlying128 rfl sz47 (by decide)) rfl ?_
        refine p_does (d_storeF1 (v := .slice _ _ _) (off := 0) S 1 0 rfl rfl rfl sz47 rfl rfl rfl (by first | with_reducible assumption | (simp [cat]; done) | (simp [cat]; omega) | rfl)) rfl ?_
        intro _ w S
        refine p_nil (x_then (s_seq (s_plain ?_)))
        refine p_val (e_move (v := .slice _ _ _) rfl) rfl ?_
        refine p_val (e_assign (v := .slice _ _ _) rfl) rfl ?_
        refine p_nil (x_then (s_ret ?_))
        exact post1 (v := .slice _ _ _) Try.results74 rfl (⟨_, _, l.take j, _, _, _, _, by unfold rRaw; rw [if_pos rfl, if_neg hp19, Int.toNat_natCast], by rw [List.length_take, Nat.min_eq_left (by omega), Nat.zero_add], EyeTo.drop (m := j) (by omega) cR, by unfold eyeE; rw [List.length_drop, List.length_take, Nat.min_eq_left (by omega)]; have S := S.pk [0, 1] rfl; rw [Nat.zero_add] at S; exact S⟩)
theorem eye_text (w0 : World) (hb : Nat) (A : Option Addr) (c : Nat) (e m : Int) (l : List Nat) (S0 : St w0 w0 (exOf [some hb]) [some hb] [eyeE A c e l]) (R : Rd w0 1 A l.length (bv l)) (oR : Off A l.length (exOf [some hb])) (bR : Bytes l) (cR : l.length ≤ c) (nR : l.length ≤ 1099511000000) :
    Ret Try.prog 59 [.pointer (some ⟨hb, 0, none⟩), .int .i64 m] w0 fun v w' => ∃ k2 c2 s e1 l1 A1 c1, rText m e l = (s, e1, l1) ∧ v = .slice (at_ k2) (List.length s) c2 ∧ EyeTo A c l A1 c1 l1 ∧ St w0 w' (exOf [some hb]) [k2, some hb] [Rw 5 1 s.length c2 (bv s), eyeE A1 c1 e1 l1] := by
  refine enter Try.func59 rfl Try.ntmps59 (Nat.le_of_ble_eq_true rfl) ?_
  have S := S0
  refine s_seq (s_plain ?_)
  refine p_val (e_assign (v := .slice _ _ _) rfl) rfl ?_
  refine p_nil (x_then (s_seq (s_plain ?_)))
  refine p_val (e_move (v := .pointer _) rfl) rfl ?_
  refine p_val (e_move (v := .pointer _) rfl) rfl ?_
  refine p_val (e_move (v := .int _ _) rfl) rfl ?_
  refine p_does (d_call Try.func53 nm53 rfl rfl (eye_upto _ _ _ _ _ _ _ (S.hr [0] rfl) (S.rdOff R oR) (S.offOld [0] R (by decide) oR rfl) bR cR nR)) rfl ?_
  rintro _ w ⟨a8, e8, l8, A8, c8, q8, rfl, t8, T⟩
  have S := (S.call [0] T rfl).pk [0] rfl
  have R8 := t8.rd _ R
  have bR8 := t8.by_ bR
  have cR8 := t8.cap
  have nR8 := t8.len nR
  have oR8 := t8.off _ oR
  refine p_does (d_call Try.func74 nm74 rfl rfl (eye_raw _ _ _ _ _ _ _ (S.hr [0] rfl) (S.rdOff R8 oR8) (S.offOld [0] R8 (by decide) oR8 rfl) cR8 nR8)) rfl ?_
  rintro _ w ⟨k9, cc9, s9, e9, l9, A9, c9, q9, rfl, t9, T⟩
  have S := (S.call [0] T rfl).pk [0, 1] rfl
  have R9 := t9.rd _ R8
  have bR9 := t9.by_ bR8
  have cR9 := t9.cap
  have nR9 := t9.len nR8
  have oR9 := t9.off _ oR8
  refine p_val (e_assign (v := .slice _ _ _) rfl) rfl ?_
  refine p_nil (x_then (s_ret ?_))
  exact post1 (v := .slice _ _ _) Try.results59 rfl (⟨_, _, _, _, _, _, _, rText_of q8 q9, rfl, t8.trans t9, S⟩)
theorem eye_sum (w0 : World) (hb : Nat) (A : Option Addr) (c : Nat) (e : Int) (l : List Nat) (S0 : St w0 w0 (exOf [some hb]) [some hb] [eyeE A c e l]) (R : Rd w0 1 A l.length (bv l)) (oR : Off A l.length (exOf [some hb])) (bR : Bytes l) (cR : l.length ≤ c) (nR : l.length ≤ 1099511000000) :
    Ret Try.prog 54 [.pointer (some ⟨hb, 0, none⟩)] w0 fun v w' => ∃ s e1 l1 A1 c1, rSum e l = (s, e1, l1) ∧ List.length s = 32 ∧ v = .agg (bv s).toArray ∧ EyeTo A c l A1 c1 l1 ∧ St w0 w' (exOf [some hb]) [some hb] [eyeE A1 c1 e1 l1] := by
  refine enter Try.func54 rfl Try.ntmps54 (Nat.le_of_ble_eq_true rfl) ?_
  have S := S0
  refine s_seq (s_plain ?_)
  refine p_does (d_allocA S zvS) rfl ?_
  rintro _ w ⟨b2, rfl, S⟩
  refine p_nil (x_then (s_seq (s_plain ?_)))
  refine p_does (d_allocA S zvS) rfl ?_
  rintro _ w ⟨b3, rfl, S⟩
  refine p_nil (x_then (s_seq ?_))
  refine s_drawZ [(true, 0), (true, 1), (false, 2), (false, 3)] [] [] (fun _ => True) mixed (by kernel_rfl) (by repeat (first | exact Calm.post _ _ _ | refine Calm.then ?_ _ | refine Calm.inB ?_ _)) ?_
  have hS : True := trivial
  have S := S.drew
  refine q_val (fun w hS => e_sl_arr rfl Try.underlying44 sz5) rfl hS ?_
  refine q_val (fun w hS => e_move (v := .pointer _) rfl) rfl hS ?_
  refine q_does (d_call Try.func74 nm74 rfl rfl (eye_raw _ _ _ _ _ _ _ (S.hr [2] rfl) (S.rdOff R oR) (S.offOld [2] R (by decide) oR rfl) cR nR)) rfl ?_
  rintro _ w ⟨k6, cc6, s6, e6, l6, A6, c6, q6, rfl, t6, T⟩
  have S := (S.call [2] T rfl).pk [0, 2, 3, 1] rfl
  have R6 := t6.rd _ R
  have bR6 := t6.by_ bR
  have cR6 := t6.cap
  have nR6 := t6.len nR
  have oR6 := t6.off _ oR
  have hS := trivial
  refine ⟨hS, ?_⟩
  refine q_does (d_copy0 S 1 rfl rfl Try.underlying47 (by kernel_rfl) rfl rfl (S.rdRw 0 rfl rfl) (by first | exact bv_one _ | exact sv_one _ | exact iv_one _ | with_reducible assumption | (refine One.mem ?_; repeat (first | exact One.bv _ | exact One.sv _ | exact One.iv _ | exact One.nil | exact One.cat0 | refine One.cat1 ?_ ?_ | refine One.cons rfl ?_ | refine One.append ?_ ?_))) (by rw [List.size_toArray, bv_length, length_zsum]; omega)) rfl ?_
  rintro _ w ⟨rfl, S⟩
  have S := S.set1Ex 1 rfl (copy_sum32 (rRaw_len q6))
  have hS := trivial
  refine ⟨hS, ?_⟩
  refine q_nil (p_nil (x_then (s_seq (s_plain ?_))))
  refine p_val (e_loadW 1 rfl ag44 sz44 S rfl rfl (by first | with_reducible assumption | (simp [cat, length_zsum, length_sum32]; done) | (simp [cat, length_zsum, length_sum32]; omega) | rfl)) rfl ?_
  refine p_does (d_storeW S 2 rfl rfl (by first | exact bv_one _ | exact sv_one _ | exact iv_one _ | with_reducible assumption | (refine One.mem ?_; repeat (first | exact One.bv _ | exact One.sv _ | exact One.iv _ | exact One.nil | exact One.cat0 | refine One.cat1 ?_ ?_ | refine One.cons rfl ?_ | refine One.append ?_ ?_))) sz44 (by first | with_reducible assumption | (simp [cat, length_zsum, length_sum32]; done) | (simp [cat, length_zsum, length_sum32]; omega) | rfl) rfl rfl (by first | with_reducible assumption | (simp [cat, length_zsum, length_sum32]; done) | (simp [cat, length_zsum, length_sum32]; omega) | rfl)) rfl ?_
  intro _ w S
  refine p_nil (x_then (s_ret ?_))
  exact postC Try.results54 S 2 rfl rfl rfl ag44 sz44 (by first | with_reducible assumption | (simp [cat, length_zsum, length_sum32]; done) | (simp [cat, length_zsum, length_sum32]; omega) | rfl) (⟨_, _, _, _, _, rSum_of q6, length_sum32 _, rfl, t6, S.pk [3] rfl⟩)
theorem eye_done (w0 : World) (hb : Nat) (A : Option Addr) (c : Nat) (e : Int) (l : List Nat) (S0 : St w0 w0 (exOf [some hb]) [some hb] [eyeE A c e l]) :
    Ret Try.prog 55 [.pointer (some ⟨hb, 0, none⟩)] w0 fun v w' => v = .int .i64 (rDone e l) ∧ St w0 w' (exOf [some hb]) [some hb] [eyeE A c (rDone e l) l] := by
  refine enter Try.func55 rfl Try.ntmps55 (Nat.le_of_ble_eq_true rfl) ?_
  have S := S0
  refine s_seq (s_plain ?_)
  refine p_val (e_assign (v := .int _ _) rfl) rfl ?_
  refine p_nil (x_then (s_seq ?_))
  refine s_cutK (ks := [some hb]) (ps := [Ex _ _]) [(0, .pointer _)] ⟨rfl, trivial⟩ S (fun keep ks ps f' w' => ∃ u, f' = upds u (keep) ∧ St w0 w' (exOf [some hb]) [some hb] [eyeE A c (rDone e l) l]) ?_ ?_
  · refine s_seq ?_
    refine s_cutK (ks := [some hb]) (ps := [Ex _ _]) [(0, .pointer _)] ⟨rfl, trivial⟩ S (fun keep ks ps f' w' => ∃ u bb, f' = upds u ((13, .bool bb) :: keep) ∧ (bb = true ↔ (e = 0 ∧ 0 < l.length)) ∧ St w0 w' (exOf [some hb]) ks ps) ?_ ?_
    · refine s_plain ?_
      refine p_val (e_move (v := .pointer _) rfl) rfl ?_
      refine p_does (d_call Try.func73 nm73 rfl rfl (eye_err _ _ _ _ _ _ (S.hr [0] rfl))) rfl ?_
      rintro _ w ⟨rfl, rfl⟩
      refine p_valB (e_eql rfl rfl) rfl (fun hg5 => ?_) (fun hg5 => ?_)
      · refine p_val (e_move (v := .bool _) rfl) rfl ?_
        refine pg_val rfl rfl rfl rfl rfl (e_move (v := .pointer _) rfl) ?_
        refine pg_val rfl rfl rfl rfl rfl (e_nil rfl rfl) ?_
        refine pg_val rfl rfl rfl rfl rfl (e_field rfl Try.underlying128 rfl sz47 (by decide)) ?_
        refine pg_val rfl rfl rfl rfl rfl (e_loadF1 (i := 0) (off := 0) rfl ag47 S (j := 0) rfl rfl rfl (by first | with_reducible assumption | (simp [cat]; done) | (simp [cat]; omega) | rfl)) ?_
        refine pg_val rfl rfl rfl rfl rfl (e_len rfl Try.underlying47) ?_
        refine pg_val rfl rfl rfl rfl rfl (e_gtr rfl rfl) ?_
        refine p_val (e_pick_t rfl rfl) rfl ?_
        exact p_nil (x_then ⟨_, rfl, _, _, upds_eq ⟨rfl, rfl, trivial⟩, by first | (simp only [decide_eq_true_eq, eq_self, true_iff, iff_true, iff_false, Bool.false_eq_true, false_iff, ge_iff_le, gt_iff_lt, true_and, and_true, false_and, and_false, true_or, or_true, false_or, or_false, not_true_eq_false, not_false_eq_true]; omega) | simp | omega | simp_all, S⟩)
      · refine p_val (e_move (v := .bool _) rfl) rfl ?_
        refine p_no rfl rfl rfl rfl rfl ?_
        refine p_no rfl rfl rfl rfl rfl ?_
        refine p_no rfl rfl rfl rfl rfl ?_
        refine p_no rfl rfl rfl rfl rfl ?_
        refine p_no rfl rfl rfl rfl rfl ?_
        refine p_no rfl rfl rfl rfl rfl ?_
        refine p_val (e_pick_f rfl rfl) rfl ?_
        exact p_nil (x_then ⟨_, rfl, _, _, upds_eq ⟨rfl, rfl, trivial⟩, by first | (simp only [decide_eq_true_eq, eq_self, true_iff, iff_true, iff_false, Bool.false_eq_true, false_iff, ge_iff_le, gt_iff_lt, true_and, and_true, false_and, and_false, true_or, or_true, false_or, or_false, not_true_eq_false, not_false_eq_true]; omega) | simp | omega | simp_all, S⟩)
    · rintro f w ⟨u, b13, rfl, hb13, S⟩
      refine x_then ?_
      refine s_condb rfl (fun hc13 => ?_) (fun hc13 => ?_)
      · have hp13 : (e = 0 ∧ 0 < l.length) := hb13.1 hc13
        refine s_plain ?_
        refine p_val (e_move (v := .pointer _) rfl) rfl ?_
        refine p_does (d_call Try.func72 nm72 rfl rfl (eye_fail _ _ _ _ _ _ _ (S.hr [0] rfl))) rfl ?_
        rintro _ w ⟨rfl, T⟩
        have S := (S.call [0] T rfl).pk [0] rfl
        refine p_nil ?_
        exact x_then ⟨_, rfl, _, upds_eq ⟨rfl, trivial⟩, by unfold rDone; rw [if_pos hp13]; have S := S; rw [hp13.1] at S; exact S⟩
      · have hp13 : ¬ (e = 0 ∧ 0 < l.length) := fun h => by rw [hb13.2 h] at hc13; cases hc13
        refine s_skip ?_
        exact x_then ⟨_, rfl, _, upds_eq ⟨rfl, trivial⟩, by unfold rDone; rw [if_neg hp13]; exact S⟩
  · rintro f w ⟨u, rfl, S⟩
    refine x_then (s_seq (s_plain ?_))
    refine p_val (e_move (v := .pointer _) rfl) rfl ?_
    refine p_does (d_call Try.func73 nm73 rfl rfl (eye_err _ _ _ _ _ _ (S.hr [0] rfl))) rfl ?_
    rintro _ w ⟨rfl, rfl⟩
    refine p_val (e_assign (v := .int _ _) rfl) rfl ?_
    refine p_nil (x_then (s_ret ?_))
    exact post1 (v := .int _ _) Try.results55 rfl (⟨rfl, S⟩)
end Go.Proofs.Ytcgcjklpilbndaa

/- Receipts: their texts, and what is read of texts. It proves no statement by itself. -/
set_option linter.unusedSimpArgs false
set_option linter.unusedVariables false
set_option maxRecDepth 100000
set_option maxHeartbeats 1000000
namespace Go.Proofs.Ytcgcjklpilbndaa
open Go Go.RowKit E
attribute [local irreducible] wpList seqH treeH
structure Rcp where
  (t c s : Int)
  (h b : List Nat)
def rcpC (r : Rcp) : List (List Value) := [[.int .i64 r.t], [.int .i64 r.c], [.int .i64 r.s], bv r.h, bv r.b]
def Rcp.ok (r : Rcp) : Prop := r.h.length = 32 ∧ r.b.length = 32
def Rcp.right (r : Rcp) : Prop := 0 ≤ r.t ∧ r.t < 16 ∧ 0 ≤ r.c ∧ r.c ≤ 1048576 ∧ 0 ≤ r.s ∧ r.s ≤ 1048576
instance (r : Rcp) : Decidable r.right := by unfold Rcp.right; infer_instance
def Rcp.zero : Rcp := ⟨0, 0, 0, zsum, zsum⟩
def rtext (r : Rcp) : List Nat := num r.t ++ num r.c ++ num r.s ++ r.h ++ r.b
theorem rtext_len {r : Rcp} (h : r.ok) : (rtext r).length ≤ 94 := by
  have h1 := num_len r.t
  have h2 := num_len r.c
  have h3 := num_len r.s
  have h4 := h.1
  have h5 := h.2
  unfold rtext
  simp only [List.length_append]; omega
def rRcp (l : List Nat) : Rcp × Int :=
  let a := rUpto 15 0 l
  let b := rUpto 1048576 a.2.1 a.2.2
  let c := rUpto 1048576 b.2.1 b.2.2
  let h := rSum c.2.1 c.2.2
  let g := rSum h.2.1 h.2.2
  if rDone g.2.1 g.2.2 = 0 then (⟨a.1, b.1, c.1, h.1, g.1⟩, 0) else (Rcp.zero, rDone g.2.1 g.2.2)
theorem rc_right (w0 : World) (r : Rcp) (hr : r.ok) :
    Ret Try.prog 22 [.agg (cat (rcpC r)).toArray] w0 fun v w' => v = .bool (decide r.right) ∧ Below w0.heap.size w0 w' := by
  refine enter Try.func22 rfl Try.ntmps22 (Nat.le_of_ble_eq_true rfl) ?_
  have S := St.init w0
  refine s_seq (s_plain ?_)
  refine p_does (d_boxA S rfl) rfl ?_
  rintro _ w ⟨b1, rfl, S⟩
  refine p_val (e_assign (v := .bool _) rfl) rfl ?_
  refine p_nil (x_then (s_seq ?_))
  refine s_cutK (ks := [some b1]) (ps := [Ex _ _]) [] trivial S (fun keep ks ps f' w' => ∃ u bb, f' = upds u ((2, .bool bb) :: keep) ∧ (bb = true ↔ (((((((0 : Int) ≤ r.t) ∧ (r.t < (16 : Int))) ∧ ((0 : Int) ≤ r.c)) ∧ (r.c ≤ (1048576 : Int))) ∧ ((0 : Int) ≤ r.s)) ∧ (r.s ≤ (1048576 : Int)))) ∧ St w0 w' [] ks ps) ?_ ?_
  · refine s_plain ?_
    refine p_val (e_field rfl Try.underlying46 rfl sz3 (by decide)) rfl ?_
    refine p_val (e_loadF1 (i := 0) (off := 0) rfl ag3 S (j := 0) rfl rfl rfl (by first | with_reducible assumption | (simp [cat, rcpC, hr.1, hr.2]; done) | (simp [cat, rcpC, hr.1, hr.2]; omega) | rfl)) rfl ?_
    refine p_valB (e_geq rfl rfl) rfl (fun hg5 => ?_) (fun hg5 => ?_)
    · refine p_val (e_move (v := .bool _) rfl) rfl ?_
      refine pg_val rfl rfl rfl rfl rfl (e_field rfl Try.underlying46 rfl sz3 (by decide)) ?_
      refine pg_val rfl rfl rfl rfl rfl (e_loadF1 (i := 0) (off := 0) rfl ag3 S (j := 0) rfl rfl rfl (by first | with_reducible assumption | (simp [cat, rcpC, hr.1, hr.2]; done) | (simp [cat, rcpC, hr.1, hr.2]; omega) | rfl)) ?_
      refine pg_valB rfl rfl rfl rfl rfl (e_lss rfl rfl) (fun hg9 => ?_) (fun hg9 => ?_)
      · refine p_val (e_pick_t rfl rfl) rfl ?_
        refine p_val (e_move (v := .bool _) rfl) rfl ?_
        refine pg_val rfl rfl rfl rfl rfl (e_field rfl Try.underlying46 rfl sz3 (by decide)) ?_
        refine pg_val rfl rfl rfl rfl rfl (e_loadF1 (i := 1) (off := 1) rfl ag3 S (j := 0) rfl rfl rfl (by first | with_reducible assumption | (simp [cat, rcpC, hr.1, hr.2]; done) | (simp [cat, rcpC, hr.1, hr.2]; omega) | rfl)) ?_
        refine pg_valB rfl rfl rfl rfl rfl (e_geq rfl rfl) (fun hg14 => ?_) (fun hg14 => ?_)
        · refine p_val (e_pick_t rfl rfl) rfl ?_
          refine p_val (e_move (v := .bool _) rfl) rfl ?_
          refine pg_val rfl rfl rfl rfl rfl (e_field rfl Try.underlying46 rfl sz3 (by decide)) ?_
          refine pg_val rfl rfl rfl rfl rfl (e_loadF1 (i := 1) (off := 1) rfl ag3 S (j := 0) rfl rfl rfl (by first | with_reducible assumption | (simp [cat, rcpC, hr.1, hr.2]; done) | (simp [cat, rcpC, hr.1, hr.2]; omega) | rfl)) ?_
          refine pg_valB rfl rfl rfl rfl rfl (e_leq rfl rfl) (fun hg19 => ?_) (fun hg19 => ?_)
          · refine p_val (e_pick_t rfl rfl) rfl ?_
            refine p_val (e_move (v := .bool _) rfl) rfl ?_
            refine pg_val rfl rfl rfl rfl rfl (e_field rfl Try.underlying46 rfl sz3 (by decide)) ?_
            refine pg_val rfl rfl rfl rfl rfl (e_loadF1 (i := 2) (off := 2) rfl ag3 S (j := 0) rfl rfl rfl (by first | with_reducible assumption | (simp [cat, rcpC, hr.1, hr.2]; done) | (simp [cat, rcpC, hr.1, hr.2]; omega) | rfl)) ?_
            refine pg_valB rfl rfl rfl rfl rfl (e_geq rfl rfl) (fun hg24 => ?_) (fun hg24 => ?_)
            · refine p_val (e_pick_t rfl rfl) rfl ?_
              refine p_val (e_move (v := .bool _) rfl) rfl ?_
              refine pg_val rfl rfl rfl rfl rfl (e_field rfl Try.underlying46 rfl sz3 (by decide)) ?_
              refine pg_val rfl rfl rfl rfl rfl (e_loadF1 (i := 2) (off := 2) rfl ag3 S (j := 0) rfl rfl rfl (by first | with_reducible assumption | (simp [cat, rcpC, hr.1, hr.2]; done) | (simp [cat, rcpC, hr.1, hr.2]; omega) | rfl)) ?_
              refine pg_val rfl rfl rfl rfl rfl (e_leq rfl rfl) ?_
              refine p_val (e_pick_t rfl rfl) rfl ?_
              refine p_val (e_assign (v := .bool _) rfl) rfl ?_
              exact p_nil (x_then ⟨_, rfl, _, _, upds_eq ⟨rfl, trivial⟩, by first | (simp only [decide_eq_true_eq, eq_self, true_iff, iff_true, iff_false, Bool.false_eq_true, false_iff, ge_iff_le, gt_iff_lt, true_and, and_true, false_and, and_false, true_or, or_true, false_or, or_false, not_true_eq_false, not_false_eq_true]; omega) | simp | omega | simp_all, S⟩)
            · refine p_val (e_pick_t rfl rfl) rfl ?_
              refine p_val (e_move (v := .bool _) rfl) rfl ?_
              refine p_no rfl rfl rfl rfl rfl ?_
              refine p_no rfl rfl rfl rfl rfl ?_
              refine p_no rfl rfl rfl rfl rfl ?_
              refine p_val (e_pick_f rfl rfl) rfl ?_
              refine p_val (e_assign (v := .bool _) rfl) rfl ?_
              exact p_nil (x_then ⟨_, rfl, _, _, upds_eq ⟨rfl, trivial⟩, by first | (simp only [decide_eq_true_eq, eq_self, true_iff, iff_true, iff_false, Bool.false_eq_true, false_iff, ge_iff_le, gt_iff_lt, true_and, and_true, false_and, and_false, true_or, or_true, false_or, or_false, not_true_eq_false, not_false_eq_true]; omega) | simp | omega | simp_all, S⟩)
          · refine p_val (e_pick_t rfl rfl) rfl ?_
            refine p_val (e_move (v := .bool _) rfl) rfl ?_
            refine p_no rfl rfl rfl rfl rfl ?_
            refine p_no rfl rfl rfl rfl rfl ?_
            refine p_no rfl rfl rfl rfl rfl ?_
            refine p_val (e_pick_f rfl rfl) rfl ?_
            refine p_val (e_move (v := .bool _) rfl) rfl ?_
            refine p_no rfl rfl rfl rfl rfl ?_
            refine p_no rfl rfl rfl rfl rfl ?_
            refine p_no rfl rfl rfl rfl rfl ?_
            refine p_val (e_pick_f rfl rfl) rfl ?_
            refine p_val (e_assign (v := .bool _) rfl) rfl ?_
            exact p_nil (x_then ⟨_, rfl, _, _, upds_eq ⟨rfl, trivial⟩, by first | (simp only [decide_eq_true_eq, eq_self, true_iff, iff_true, iff_false, Bool.false_eq_true, false_iff, ge_iff_le, gt_iff_lt, true_and, and_true, false_and, and_false, true_or, or_true, false_or, or_false, not_true_eq_false, not_false_eq_true]; omega) | simp | omega | simp_all, S⟩)
        · refine p_val (e_pick_t rfl rfl) rfl ?_
          refine p_val (e_move (v := .bool _) rfl) rfl ?_
          refine p_no rfl rfl rfl rfl rfl ?_
          refine p_no rfl rfl rfl rfl rfl ?_
          refine p_no rfl rfl rfl rfl rfl ?_
          refine p_val (e_pick_f rfl rfl) rfl ?_
          refine p_val (e_move (v := .bool _) rfl) rfl ?_
          refine p_no rfl rfl rfl rfl rfl ?_
          refine p_no rfl rfl rfl rfl rfl ?_
          refine p_no rfl rfl rfl rfl rfl ?_
          refine p_val (e_pick_f rfl rfl) rfl ?_
          refine p_val (e_move (v := .bool _) rfl) rfl ?_
          refine p_no rfl rfl rfl rfl rfl ?_
          refine p_no rfl rfl rfl rfl rfl ?_
          refine p_no rfl rfl rfl rfl rfl ?_
          refine p_val (e_pick_f rfl rfl) rfl ?_
          refine p_val (e_assign (v := .bool _) rfl) rfl ?_
          exact p_nil (x_then ⟨_, rfl, _, _, upds_eq ⟨rfl, trivial⟩, by first | (simp only [decide_eq_true_eq, eq_self, true_iff, iff_true, iff_false, Bool.false_eq_true, false_iff, ge_iff_le, gt_iff_lt, true_and, and_true, false_and, and_false, true_or, or_true, false_or, or_false, not_true_eq_false, not_false_eq_true]; omega) | simp | omega | simp_all, S⟩)
      · refine p_val (e_pick_t rfl rfl) rfl ?_
        refine p_val (e_move (v := .bool _) rfl) rfl ?_
        refine p_no rfl rfl rfl rfl rfl ?_
        refine p_no rfl rfl rfl rfl rfl ?_
        refine p_no rfl rfl rfl rfl rfl ?_
        refine p_val (e_pick_f rfl rfl) rfl ?_
        refine p_val (e_move (v := .bool _) rfl) rfl ?_
        refine p_no rfl rfl rfl rfl rfl ?_
        refine p_no rfl rfl rfl rfl rfl ?_
        refine p_no rfl rfl rfl rfl rfl ?_
        refine p_val (e_pick_f rfl rfl) rfl ?_
        refine p_val (e_move (v := .bool _) rfl) rfl ?_
        refine p_no rfl rfl rfl rfl rfl ?_
        refine p_no rfl rfl rfl rfl rfl ?_
        refine p_no rfl rfl rfl rfl rfl ?_
        refine p_val (e_pick_f rfl rfl) rfl ?_
        refine p_val (e_move (v := .bool _) rfl) rfl ?_
        refine p_no rfl rfl rfl rfl rfl ?_
        refine p_no rfl rfl rfl rfl rfl ?_
        refine p_no rfl rfl rfl rfl rfl ?_
        refine p_val (e_pick_f rfl rfl) rfl ?_
        refine p_val (e_assign (v := .bool _) rfl) rfl ?_
        exact p_nil (x_then ⟨_, rfl, _, _, upds_eq ⟨rfl, trivial⟩, by first | (simp only [decide_eq_true_eq, eq_self, true_iff, iff_true, iff_false, Bool.false_eq_true, false_iff, ge_iff_le, gt_iff_lt, true_and, and_true, false_and, and_false, true_or, or_true, false_or, or_false, not_true_eq_false, not_false_eq_true]; omega) | simp | omega | simp_all, S⟩)
    · refine p_val (e_move (v := .bool _) rfl) rfl ?_
      refine p_no rfl rfl rfl rfl rfl ?_
      refine p_no rfl rfl rfl rfl rfl ?_
      refine p_no rfl rfl rfl rfl rfl ?_
      refine p_val (e_pick_f rfl rfl) rfl ?_
      refine p_val (e_move (v := .bool _) rfl) rfl ?_
      refine p_no rfl rfl rfl rfl rfl ?_
      refine p_no rfl rfl rfl rfl rfl ?_
      refine p_no rfl rfl rfl rfl rfl ?_
      refine p_val (e_pick_f rfl rfl) rfl ?_
      refine p_val (e_move (v := .bool _) rfl) rfl ?_
      refine p_no rfl rfl rfl rfl rfl ?_
      refine p_no rfl rfl rfl rfl rfl ?_
      refine p_no rfl rfl rfl rfl rfl ?_
      refine p_val (e_pick_f rfl rfl) rfl ?_
      refine p_val (e_move (v := .bool _) rfl) rfl ?_
      refine p_no rfl rfl rfl rfl rfl ?_
      refine p_no rfl rfl rfl rfl rfl ?_
      refine p_no rfl rfl rfl rfl rfl ?_
      refine p_val (e_pick_f rfl rfl) rfl ?_
      refine p_val (e_move (v := .bool _) rfl) rfl ?_
      refine p_no rfl rfl rfl rfl rfl ?_
      refine p_no rfl rfl rfl rfl rfl ?_
      refine p_no rfl rfl rfl rfl rfl ?_
      refine p_val (e_pick_f rfl rfl) rfl ?_
      refine p_val (e_assign (v := .bool _) rfl) rfl ?_
      exact p_nil (x_then ⟨_, rfl, _, _, upds_eq ⟨rfl, trivial⟩, by first | (simp only [decide_eq_true_eq, eq_self, true_iff, iff_true, iff_false, Bool.false_eq_true, false_iff, ge_iff_le, gt_iff_lt, true_and, and_true, false_and, and_false, true_or, or_true, false_or, or_false, not_true_eq_false, not_false_eq_true]; omega) | simp | omega | simp_all, S⟩)
  · rintro f w ⟨u, b2, rfl, hb2, S⟩
    refine x_then (s_ret ?_)
    exact post1 (v := .bool _) Try.results22 rfl (⟨by congr 1; exact Bool.eq_iff_iff.2 (hb2.trans (Iff.trans (by unfold Rcp.right; omega) decide_eq_true_iff.symm)), S.to_below⟩)
theorem rc_text (w0 : World) (r : Rcp) (hr : r.ok) :
    Ret Try.prog 21 [.agg (cat (rcpC r)).toArray] w0 fun v w' => ∃ k c, v = .slice (at_ k) (rtext r).length c ∧ St w0 w' [] [k] [Rw 5 1 (rtext r).length c (bv (rtext r))] := by
  refine enter Try.func21 rfl Try.ntmps21 (Nat.le_of_ble_eq_true rfl) ?_
  have S := St.init w0
  have hn : (nums [r.t, r.c, r.s]).length ≤ 30 := nums_len _
  refine s_seq (s_plain ?_)
  refine p_does (d_boxA S rfl) rfl ?_
  rintro _ w ⟨b1, rfl, S⟩
  refine p_val (e_assign (v := .slice _ _ _) rfl) rfl ?_
  refine p_nil (x_then (s_seq (s_plain ?_)))
  refine p_does (d_allocA S zs56) rfl ?_
  rintro _ w ⟨b3, rfl, S⟩
  have S := pen_new S
  refine p_nil (x_then (s_seq ?_))
  refine s_drawK (ks := [some b1]) (ps := [Ex _ _]) (S.pk [2] rfl) [(true, 0), (true, 1), (true, 2), (true, 3), (true, 4), (true, 5), (true, 8), (true, 9), (true, 11), (true, 12), (false, 6), (false, 7), (false, 10), (false, 13), (false, 14)] [15] [15] mixed (by kernel_rfl) (by repeat (first | exact Calm.post _ _ _ | refine Calm.then ?_ _ | refine Calm.inB ?_ _)) (fun hS => ?_)
  have S := S.drew
  refine q_val (fun w hS => e_field rfl Try.underlying46 rfl sz3 (by decide)) rfl hS ?_
  refine q_val (fun w hS => e_loadF1 (i := 0) (off := 0) rfl ag3 hS (j := 0) rfl rfl rfl (by first | with_reducible assumption | (simp [cat, rcpC, hr.1, hr.2]; done) | (simp [cat, rcpC, hr.1, hr.2]; omega) | rfl)) rfl hS ?_
  refine q_val (fun w hS => e_field rfl Try.underlying46 rfl sz3 (by decide)) rfl hS ?_
  refine q_val (fun w hS => e_loadF1 (i := 1) (off := 1) rfl ag3 hS (j := 0) rfl rfl rfl (by first | with_reducible assumption | (simp [cat, rcpC, hr.1, hr.2]; done) | (simp [cat, rcpC, hr.1, hr.2]; omega) | rfl)) rfl hS ?_
  refine q_val (fun w hS => e_field rfl Try.underlying46 rfl sz3 (by decide)) rfl hS ?_
  refine q_val (fun w hS => e_loadF1 (i := 2) (off := 2) rfl ag3 hS (j := 0) rfl rfl rfl (by first | with_reducible assumption | (simp [cat, rcpC, hr.1, hr.2]; done) | (simp [cat, rcpC, hr.1, hr.2]; omega) | rfl)) rfl hS ?_
  refine q_val (fun w hS => e_field rfl Try.underlying46 rfl sz44 (by decide)) rfl hS ?_
  refine q_val (fun w hS => e_loadFA (i := 3) (off := 3) rfl ag44 sz44 (by decide) hS (j := 0) rfl rfl rfl (by first | with_reducible assumption | (simp [cat, rcpC, hr.1, hr.2]; done) | (simp [cat, rcpC, hr.1, hr.2]; omega) | rfl) (by first | with_reducible assumption | (simp [cat, rcpC, hr.1, hr.2]; done) | (simp [cat, rcpC, hr.1, hr.2]; omega) | rfl)) rfl hS ?_
  refine q_val (fun w hS => e_field rfl Try.underlying46 rfl sz44 (by decide)) rfl hS ?_
  refine q_val (fun w hS => e_loadFA (i := 4) (off := 35) rfl ag44 sz44 (by decide) hS (j := 0) rfl rfl rfl (by first | with_reducible assumption | (simp [cat, rcpC, hr.1, hr.2]; done) | (simp [cat, rcpC, hr.1, hr.2]; omega) | rfl) (by first | with_reducible assumption | (simp [cat, rcpC, hr.1, hr.2]; done) | (simp [cat, rcpC, hr.1, hr.2]; omega) | rfl)) rfl hS ?_
  refine q_does (d_litI S Try.underlying31 sz3 zv3 rfl (l := [_, _, _]) rfl rfl (by decide)) rfl ?_
  rintro _ w ⟨b10, rfl, S⟩
  have hS := S.pk [3] rfl
  refine ⟨hS, ?_⟩
  refine q_does (d_call Try.func58 nm58 rfl rfl (pen_nums _ _ _ _ _ _ _ _ _ (S.hr [1, 2] rfl) (S.rdRw 0 rfl rfl) (S.offRow 0 [1, 2] rfl rfl) (by first | omega | (simp only [List.length_append, List.length_cons, List.length_nil, bv_length, rcpC, hr.1, hr.2]; omega) | (simp [cat, rcpC, hr.1, hr.2]; omega)) (by decide))) rfl ?_
  rintro _ w ⟨rfl, k11, c11, T⟩
  have S := (S.call [1, 2] T rfl).pk [2, 0, 1, 5] rfl
  have hS := S.pk [3] rfl
  refine ⟨hS, ?_⟩
  refine q_does (d_call Try.func57 nm57 rfl rfl (pen_sum _ _ _ _ _ _ (S.hr [1, 2] rfl) (by first | with_reducible assumption | (simp [cat, rcpC, hr.1, hr.2]; done) | (simp [cat, rcpC, hr.1, hr.2]; omega) | rfl) (by first | omega | (simp only [List.length_append, List.length_cons, List.length_nil, bv_length, rcpC, hr.1, hr.2]; omega) | (simp [cat, rcpC, hr.1, hr.2]; omega)))) rfl ?_
  rintro _ w ⟨rfl, k14, c14, T⟩
  have S := (S.call [1, 2] T rfl).pk [2, 0, 1, 5] rfl
  have hS := S.pk [3] rfl
  refine ⟨hS, ?_⟩
  refine q_does (d_call Try.func57 nm57 rfl rfl (pen_sum _ _ _ _ _ _ (S.hr [1, 2] rfl) (by first | with_reducible assumption | (simp [cat, rcpC, hr.1, hr.2]; done) | (simp [cat, rcpC, hr.1, hr.2]; omega) | rfl) (by first | omega | (simp only [List.length_append, List.length_cons, List.length_nil, bv_length, rcpC, hr.1, hr.2]; omega) | (simp [cat, rcpC, hr.1, hr.2]; omega)))) rfl ?_
  rintro _ w ⟨rfl, k17, c17, T⟩
  have S := (S.call [1, 2] T rfl).pk [2, 0, 1, 5] rfl
  have hS := S.pk [3] rfl
  refine ⟨hS, ?_⟩
  refine q_does (d_call Try.func26 nm26 rfl rfl (pen_bytes _ _ _ _ _ (S.exact_ 1 rfl rfl) (S.rdRw 2 rfl rfl) (by first | omega | (simp only [List.length_append, List.length_cons, List.length_nil, bv_length, rcpC, hr.1, hr.2]; omega) | (simp [cat, rcpC, hr.1, hr.2]; omega)))) rfl ?_
  rintro _ w ⟨k18, c18, rfl, T⟩
  have S := S.merge T rfl
  have hS := S.pk [4] rfl
  refine ⟨hS, ?_⟩
  refine q_nil ?_
  refine p_val (e_assign (v := .slice _ _ _) rfl) rfl ?_
  refine p_nil (x_then (s_ret ?_))
  exact post1 (v := .slice _ _ _) Try.results21 rfl (by have e : [] ++ nums [r.t, r.c, r.s] ++ r.h ++ r.b = rtext r := by { simp [nums, rtext] }; rw [← e]; exact ⟨_, _, rfl, S.pk [0] rfl⟩)
theorem rc_read (w0 : World) (A : Option Addr) (c : Nat) (l : List Nat) (R : Rd w0 1 A l.length (bv l)) (bR : Bytes l) (cR : l.length ≤ c) (nR : l.length ≤ 1099511000000) :
    Ret Try.prog 19 [.slice A l.length c] w0 fun v w' => v = .tuple #[.agg (cat (rcpC (rRcp l).1)).toArray, .int .i64 (rRcp l).2] ∧ Below w0.heap.size w0 w' := by
  refine enter Try.func19 rfl Try.ntmps19 (Nat.le_of_ble_eq_true rfl) ?_
  have S := St.init w0
  refine s_seq (s_plain ?_)
  refine p_does (d_allocA S zs46) rfl ?_
  rintro _ w ⟨b2, rfl, S⟩
  refine p_val (e_assign (v := .int _ _) rfl) rfl ?_
  refine p_nil (x_then (s_seq (s_plain ?_)))
  refine p_val (e_move (v := .slice _ _ _) rfl) rfl ?_
  refine p_does (d_call Try.func52 nm52 rfl rfl (eye_look _ _ _ _)) rfl ?_
  rintro _ w ⟨b8, rfl, T⟩
  have S := S.merge T rfl
  refine p_val (e_assign (v := .pointer _) rfl) rfl ?_
  refine p_nil (x_then (s_seq (s_plain ?_)))
  refine p_val (e_move (v := .pointer _) rfl) rfl ?_
  refine p_does (d_call Try.func53 nm53 rfl rfl (eye_upto _ _ _ _ _ _ _ (S.hr [0] rfl) (S.rdOld R rfl) (S.offOld [0] R (by decide) Off.nil rfl) bR cR nR)) rfl ?_
  rintro _ w ⟨a10, e10, l10, A10, c10, q10, rfl, t10, T⟩
  have S := (S.call [0] T rfl).pk [0, 2] rfl
  have R10 := t10.rd _ R
  have bR10 := t10.by_ bR
  have cR10 := t10.cap
  have nR10 := t10.len nR
  refine p_val (e_move (v := .pointer _) rfl) rfl ?_
  refine p_does (d_call Try.func53 nm53 rfl rfl (eye_upto _ _ _ _ _ _ _ (S.hr [0] rfl) (S.rdOld R10 rfl) (S.offOld [0] R10 (by decide) Off.nil rfl) bR10 cR10 nR10)) rfl ?_
  rintro _ w ⟨a12, e12, l12, A12, c12, q12, rfl, t12, T⟩
  have S := (S.call [0] T rfl).pk [0, 2] rfl
  have R12 := t12.rd _ R10
  have bR12 := t12.by_ bR10
  have cR12 := t12.cap
  have nR12 := t12.len nR10
  refine p_val (e_move (v := .pointer _) rfl) rfl ?_
  refine p_does (d_call Try.func53 nm53 rfl rfl (eye_upto _ _ _ _ _ _ _ (S.hr [0] rfl) (S.rdOld R12 rfl) (S.offOld [0] R12 (by decide) Off.nil rfl) bR12 cR12 nR12)) rfl ?_
  rintro _ w ⟨a14, e14, l14, A14, c14, q14, rfl, t14, T⟩
  have S := (S.call [0] T rfl).pk [0, 2] rfl
  have R14 := t14.rd _ R12
  have bR14 := t14.by_ bR12
  have cR14 := t14.cap
  have nR14 := t14.len nR12
  refine p_val (e_buildS bt46 (Eq.trans (fill_cat (v := .int _ _) (l' := [[_]]) 0 1 rfl (rfl) (by first | with_reducible assumption | (simp [cat, length_zsum, rcpC, zc46]; done) | (simp [cat, length_zsum, rcpC, zc46]; omega) | rfl) (by first | with_reducible assumption | (simp [cat, length_zsum, rcpC, zc46]; done) | (simp [cat, length_zsum, rcpC, zc46]; omega) | rfl) (by first | with_reducible assumption | (simp [cat, length_zsum, rcpC, zc46]; done) | (simp [cat, length_zsum, rcpC, zc46]; omega) | rfl)) (Eq.trans (fill_cat (v := .int _ _) (l' := [[_]]) 1 1 rfl (rfl) (by first | with_reducible assumption | (simp [cat, length_zsum, rcpC, zc46]; done) | (simp [cat, length_zsum, rcpC, zc46]; omega) | rfl) (by first | with_reducible assumption | (simp [cat, length_zsum, rcpC, zc46]; done) | (simp [cat, length_zsum, rcpC, zc46]; omega) | rfl) (by first | with_reducible assumption | (simp [cat, length_zsum, rcpC, zc46]; done) | (simp [cat, length_zsum, rcpC, zc46]; omega) | rfl)) (Eq.trans (fill_cat (v := .int _ _) (l' := [[_]]) 2 1 rfl (rfl) (by first | with_reducible assumption | (simp [cat, length_zsum, rcpC, zc46]; done) | (simp [cat, length_zsum, rcpC, zc46]; omega) | rfl) (by first | with_reducible assumption | (simp [cat, length_zsum, rcpC, zc46]; done) | (simp [cat, length_zsum, rcpC, zc46]; omega) | rfl) (by first | with_reducible assumption | (simp [cat, length_zsum, rcpC, zc46]; done) | (simp [cat, length_zsum, rcpC, zc46]; omega) | rfl)) rfl)))) rfl ?_
  refine p_does (d_allocA S zs46) rfl ?_
  rintro _ w ⟨b5, rfl, S⟩
  refine p_does (d_storeW S 0 rfl rfl (by first | exact bv_one _ | exact sv_one _ | exact iv_one _ | with_reducible assumption | (refine One.mem ?_; repeat (first | exact One.bv _ | exact One.sv _ | exact One.iv _ | exact One.nil | exact One.cat0 | refine One.cat1 ?_ ?_ | refine One.cons rfl ?_ | refine One.append ?_ ?_))) sz46 (by first | with_reducible assumption | (simp [cat, length_zsum, rcpC, zc46]; done) | (simp [cat, length_zsum, rcpC, zc46]; omega) | rfl) rfl rfl (by first | with_reducible assumption | (simp [cat, length_zsum, rcpC, zc46]; done) | (simp [cat, length_zsum, rcpC, zc46]; omega) | rfl)) rfl ?_
  intro _ w S
  refine p_nil (x_then (s_seq (s_plain ?_)))
  refine p_val (e_move (v := .pointer _) rfl) rfl ?_
  refine p_does (d_call Try.func54 nm54 rfl rfl (eye_sum _ _ _ _ _ _ (S.hr [1] rfl) (S.rdOld R14 rfl) (S.offOld [1] R14 (by decide) Off.nil rfl) bR14 cR14 nR14)) rfl ?_
  rintro _ w ⟨s17, e17, l17, A17, c17, q17, hs17, rfl, t17, T⟩
  have S := (S.call [1] T rfl).pk [1, 0, 3] rfl
  have R17 := t17.rd _ R14
  have bR17 := t17.by_ bR14
  have cR17 := t17.cap
  have nR17 := t17.len nR14
  refine p_val (e_move (v := .pointer _) rfl) rfl ?_
  refine p_does (d_call Try.func54 nm54 rfl rfl (eye_sum _ _ _ _ _ _ (S.hr [1] rfl) (S.rdOld R17 rfl) (S.offOld [1] R17 (by decide) Off.nil rfl) bR17 cR17 nR17)) rfl ?_
  rintro _ w ⟨s19, e19, l19, A19, c19, q19, hs19, rfl, t19, T⟩
  have S := (S.call [1] T rfl).pk [1, 0, 3] rfl
  have R19 := t19.rd _ R17
  have bR19 := t19.by_ bR17
  have cR19 := t19.cap
  have nR19 := t19.len nR17
  refine p_val (e_field rfl Try.underlying46 rfl sz44 (by decide)) rfl ?_
  refine p_does (d_storeFA (off := 3) S 0 3 rfl rfl (by first | exact bv_one _ | exact sv_one _ | exact iv_one _ | with_reducible assumption | (refine One.mem ?_; repeat (first | exact One.bv _ | exact One.sv _ | exact One.iv _ | exact One.nil | exact One.cat0 | refine One.cat1 ?_ ?_ | refine One.cons rfl ?_ | refine One.append ?_ ?_))) sz44 (by simp [hs17]) rfl rfl rfl (by first | with_reducible assumption | (simp [cat, length_zsum, rcpC, zc46]; done) | (simp [cat, length_zsum, rcpC, zc46]; omega) | rfl) (by first | with_reducible assumption | (simp [cat, length_zsum, rcpC, zc46]; done) | (simp [cat, length_zsum, rcpC, zc46]; omega) | rfl)) rfl ?_
  intro _ w S
  refine p_val (e_field rfl Try.underlying46 rfl sz44 (by decide)) rfl ?_
  refine p_does (d_storeFA (off := 35) S 0 4 rfl rfl (by first | exact bv_one _ | exact sv_one _ | exact iv_one _ | with_reducible assumption | (refine One.mem ?_; repeat (first | exact One.bv _ | exact One.sv _ | exact One.iv _ | exact One.nil | exact One.cat0 | refine One.cat1 ?_ ?_ | refine One.cons rfl ?_ | refine One.append ?_ ?_))) sz44 (by simp [hs19]) rfl rfl rfl (by first | with_reducible assumption | (simp [cat, length_zsum, rcpC, zc46]; done) | (simp [cat, length_zsum, rcpC, zc46]; omega) | rfl) (by simp [cat, zc46, hs17, hs19])) rfl ?_
  intro _ w S
  refine p_nil (x_then (s_seq (s_seq (s_plain ?_))))
  refine p_val (e_move (v := .pointer _) rfl) rfl ?_
  refine p_does (d_call Try.func55 nm55 rfl rfl (eye_done _ _ _ _ _ _ (S.hr [1] rfl))) rfl ?_
  rintro _ w ⟨rfl, T⟩
  have S := (S.call [1] T rfl).pk [1, 0, 3] rfl
  refine p_val (e_assign (v := .int _ _) rfl) rfl ?_
  refine p_nil (x_then (s_seq (s_plain ?_)))
  refine p_val (e_move (v := .int _ _) rfl) rfl ?_
  refine p_val (e_neq rfl rfl) rfl ?_
  refine p_nil (x_then ?_)
  refine s_cond rfl (fun hc25 => ?_) (fun hc25 => ?_)
  · have e0 : rRcp l = (Rcp.zero, rDone e19 l19) := by simp only [rRcp, q10, q12, q14, q17, q19, if_neg hc25]
    refine s_seq (s_plain ?_)
    refine p_val (e_buildS0 bt46) rfl ?_
    refine p_val (e_move (v := .int _ _) rfl) rfl ?_
    refine p_does (d_storeW S 2 rfl rfl (by first | exact bv_one _ | exact sv_one _ | exact iv_one _ | with_reducible assumption | (refine One.mem ?_; repeat (first | exact One.bv _ | exact One.sv _ | exact One.iv _ | exact One.nil | exact One.cat0 | refine One.cat1 ?_ ?_ | refine One.cons rfl ?_ | refine One.append ?_ ?_))) sz46 (by first | with_reducible assumption | (simp [cat, length_zsum, rcpC, zc46]; done) | (simp [cat, length_zsum, rcpC, zc46]; omega) | rfl) rfl rfl (by first | with_reducible assumption | (simp [cat, length_zsum, rcpC, zc46]; done) | (simp [cat, length_zsum, rcpC, zc46]; omega) | rfl)) rfl ?_
    intro _ w S
    refine p_val (e_assign (v := .int _ _) rfl) rfl ?_
    refine p_nil (x_then (s_ret (x_then_ret ?_)))
    exact postC1 (v := .int _ _) Try.results19 S 2 rfl rfl rfl rfl ag46 sz46 (by first | with_reducible assumption | (simp [cat, length_zsum, rcpC, zc46]; done) | (simp [cat, length_zsum, rcpC, zc46]; omega) | rfl) (⟨by rw [e0]; rfl, S.to_below⟩)
  · have e0 : rRcp l = (⟨a10, a12, a14, s17, s19⟩, 0) := by simp only [rRcp, q10, q12, q14, q17, q19, if_pos (Classical.not_not.1 hc25)]
    refine s_skip (x_then (s_seq (s_plain ?_)))
    refine p_val (e_loadW 0 rfl ag46 sz46 S rfl rfl (by simp [cat, zc46, hs17, hs19])) rfl ?_
    refine p_does (d_storeW S 2 rfl rfl (by first | exact bv_one _ | exact sv_one _ | exact iv_one _ | with_reducible assumption | (refine One.mem ?_; repeat (first | exact One.bv _ | exact One.sv _ | exact One.iv _ | exact One.nil | exact One.cat0 | refine One.cat1 ?_ ?_ | refine One.cons rfl ?_ | refine One.append ?_ ?_))) sz46 (by simp [cat, zc46, hs17, hs19]) rfl rfl (by first | with_reducible assumption | (simp [cat, length_zsum, rcpC, zc46]; done) | (simp [cat, length_zsum, rcpC, zc46]; omega) | rfl)) rfl ?_
    intro _ w S
    refine p_val (e_assign (v := .int _ _) rfl) rfl ?_
    refine p_nil (x_then (s_ret ?_))
    exact postC1 (v := .int _ _) Try.results19 S 2 rfl rfl rfl rfl ag46 sz46 (by simp [cat, zc46, hs17, hs19]) (⟨by rw [e0]; rfl, S.to_below⟩)
theorem l12right (w0 : World) (r : Rcp) (hr : r.ok) :
    Ret Try.prog 23 [.agg (cat (rcpC r)).toArray] w0 fun v w' => v = .bool (decide r.right) ∧ Below w0.heap.size w0 w' := by
  refine enter Try.func23 rfl Try.ntmps23 (Nat.le_of_ble_eq_true rfl) ?_
  have S := St.init w0
  refine s_seq (s_plain ?_)
  refine p_does (d_boxA S rfl) rfl ?_
  rintro _ w ⟨b1, rfl, S⟩
  refine p_val (e_assign (v := .bool _) rfl) rfl ?_
  refine p_nil (x_then (s_seq ?_))
  refine s_cutK (ks := [some b1]) (ps := [Ex _ _]) [] trivial S (fun keep ks ps f' w' => ∃ u bb, f' = upds u ((2, .bool bb) :: keep) ∧ (bb = true ↔ (((((((0 : Int) ≤ r.t) ∧ (r.t < (16 : Int))) ∧ ((0 : Int) ≤ r.c)) ∧ (r.c ≤ (1048576 : Int))) ∧ ((0 : Int) ≤ r.s)) ∧ (r.s ≤ (1048576 : Int)))) ∧ St w0 w' [] ks ps) ?_ ?_
  · refine s_plain ?_
    refine p_val (e_field rfl Try.underlying46 rfl sz3 (by decide)) rfl ?_
    refine p_val (e_loadF1 (i := 0) (off := 0) rfl ag3 S (j := 0) rfl rfl rfl (by first | with_reducible assumption | (simp [cat, rcpC, hr.1, hr.2]; done) | (simp [cat, rcpC, hr.1, hr.2]; omega) | rfl)) rfl ?_
    refine p_valB (e_geq rfl rfl) rfl (fun hg5 => ?_) (fun hg5 => ?_)
    · refine p_val (e_move (v := .bool _) rfl) rfl ?_
      refine pg_val rfl rfl rfl rfl rfl (e_field rfl Try.underlying46 rfl sz3 (by decide)) ?_
      refine pg_val rfl rfl rfl rfl rfl (e_loadF1 (i := 0) (off := 0) rfl ag3 S (j := 0) rfl rfl rfl (by first | with_reducible assumption | (simp [cat, rcpC, hr.1, hr.2]; done) | (simp [cat, rcpC, hr.1, hr.2]; omega) | rfl)) ?_
      refine pg_valB rfl rfl rfl rfl rfl (e_lss rfl rfl) (fun hg9 => ?_) (fun hg9 => ?_)
      · refine p_val (e_pick_t rfl rfl) rfl ?_
        refine p_val (e_move (v := .bool _) rfl) rfl ?_
        refine pg_val rfl rfl rfl rfl rfl (e_field rfl Try.underlying46 rfl sz3 (by decide)) ?_
        refine pg_val rfl rfl rfl rfl rfl (e_loadF1 (i := 1) (off := 1) rfl ag3 S (j := 0) rfl rfl rfl (by first | with_reducible assumption | (simp [cat, rcpC, hr.1, hr.2]; done) | (simp [cat, rcpC, hr.1, hr.2]; omega) | rfl)) ?_
        refine pg_valB rfl rfl rfl rfl rfl (e_geq rfl rfl) (fun hg14 => ?_) (fun hg14 => ?_)
        · refine p_val (e_pick_t rfl rfl) rfl ?_
          refine p_val (e_move (v := .bool _) rfl) rfl ?_
          refine pg_val rfl rfl rfl rfl rfl (e_field rfl Try.underlying46 rfl sz3 (by decide)) ?_
          refine pg_val rfl rfl rfl rfl rfl (e_loadF1 (i := 1) (off := 1) rfl ag3 S (j := 0) rfl rfl rfl (by first | with_reducible assumption | (simp [cat, rcpC, hr.1, hr.2]; done) | (simp [cat, rcpC, hr.1, hr.2]; omega) | rfl)) ?_
          refine pg_valB rfl rfl rfl rfl rfl (e_leq rfl rfl) (fun hg19 => ?_) (fun hg19 => ?_)
          · refine p_val (e_pick_t rfl rfl) rfl ?_
            refine p_val (e_move (v := .bool _) rfl) rfl ?_
            refine pg_val rfl rfl rfl rfl rfl (e_field rfl Try.underlying46 rfl sz3 (by decide)) ?_
            refine pg_val rfl rfl rfl rfl rfl (e_loadF1 (i := 2) (off := 2) rfl ag3 S (j := 0) rfl rfl rfl (by first | with_reducible assumption | (simp [cat, rcpC, hr.1, hr.2]; done) | (simp [cat, rcpC, hr.1, hr.2]; omega) | rfl)) ?_
            refine pg_valB rfl rfl rfl rfl rfl (e_geq rfl rfl) (fun hg24 => ?_) (fun hg24 => ?_)
            · refine p_val (e_pick_t rfl rfl) rfl ?_
              refine p_val (e_move (v := .bool _) rfl) rfl ?_
              refine pg_val rfl rfl rfl rfl rfl (e_field rfl Try.underlying46 rfl sz3 (by decide)) ?_
              refine pg_val rfl rfl rfl rfl rfl (e_loadF1 (i := 2) (off := 2) rfl ag3 S (j := 0) rfl rfl rfl (by first | with_reducible assumption | (simp [cat, rcpC, hr.1, hr.2]; done) | (simp [cat, rcpC, hr.1, hr.2]; omega) | rfl)) ?_
              refine pg_val rfl rfl rfl rfl rfl (e_leq rfl rfl) ?_
              refine p_val (e_pick_t rfl rfl) rfl ?_
              refine p_val (e_assign (v := .bool _) rfl) rfl ?_
              exact p_nil (x_then ⟨_, rfl, _, _, upds_eq ⟨rfl, trivial⟩, by first | (simp only [decide_eq_true_eq, eq_self, true_iff, iff_true, iff_false, Bool.false_eq_true, false_iff, ge_iff_le, gt_iff_lt, true_and, and_true, false_and, and_false, true_or, or_true, false_or, or_false, not_true_eq_false, not_false_eq_true]; omega) | simp | omega | simp_all, S⟩)
            · refine p_val (e_pick_t rfl rfl) rfl ?_
              refine p_val (e_move (v := .bool _) rfl) rfl ?_
              refine p_no rfl rfl rfl rfl rfl ?_
              refine p_no rfl rfl rfl rfl rfl ?_
              refine p_no rfl rfl rfl rfl rfl ?_
              refine p_val (e_pick_f rfl rfl) rfl ?_
              refine p_val (e_assign (v := .bool _) rfl) rfl ?_
              exact p_nil (x_then ⟨_, rfl, _, _, upds_eq ⟨rfl, trivial⟩, by first | (simp only [decide_eq_true_eq, eq_self, true_iff, iff_true, iff_false, Bool.false_eq_true, false_iff, ge_iff_le, gt_iff_lt, true_and, and_true, false_and, and_false, true_or, or_true, false_or, or_false, not_true_eq_false, not_false_eq_true]; omega) | simp | omega | simp_all, S⟩)
          · refine p_val (e_pick_t rfl rfl) rfl ?_
            refine p_val (e_move (v := .bool _) rfl) rfl ?_
            refine p_no rfl rfl rfl rfl rfl ?_
            refine p_no rfl rfl rfl rfl rfl ?_
            refine p_no rfl rfl rfl rfl rfl ?_
            refine p_val (e_pick_f rfl rfl) rfl ?_
            refine p_val (e_move (v := .bool _) rfl) rfl ?_
            refine p_no rfl rfl rfl rfl rfl ?_
            refine p_no rfl rfl rfl rfl rfl ?_
            refine p_no rfl rfl rfl rfl rfl ?_
            refine p_val (e_pick_f rfl rfl) rfl ?_
            refine p_val (e_assign (v := .bool _) rfl) rfl ?_
            exact p_nil (x_then ⟨_, rfl, _, _, upds_eq ⟨rfl, trivial⟩, by first | (simp only [decide_eq_true_eq, eq_self, true_iff, iff_true, iff_false, Bool.false_eq_true, false_iff, ge_iff_le, gt_iff_lt, true_and, and_true, false_and, and_false, true_or, or_true, false_or, or_false, not_true_eq_false, not_false_eq_true]; omega) | simp | omega | simp_all, S⟩)
        · refine p_val (e_pick_t rfl rfl) rfl ?_
          refine p_val (e_move (v := .bool _) rfl) rfl ?_
          refine p_no rfl rfl rfl rfl rfl ?_
          refine p_no rfl rfl rfl rfl rfl ?_
          refine p_no rfl rfl rfl rfl rfl ?_
          refine p_val (e_pick_f rfl rfl) rfl ?_
          refine p_val (e_move (v := .bool _) rfl) rfl ?_
          refine p_no rfl rfl rfl rfl rfl ?_
          refine p_no rfl rfl rfl rfl rfl ?_
          refine p_no rfl rfl rfl rfl rfl ?_
          refine p_val (e_pick_f rfl rfl) rfl ?_
          refine p_val (e_move (v := .bool _) rfl) rfl ?_
          refine p_no rfl rfl rfl rfl rfl ?_
          refine p_no rfl rfl rfl rfl rfl ?_
          refine p_no rfl rfl rfl rfl rfl ?_
          refine p_val (e_pick_f rfl rfl) rfl ?_
          refine p_val (e_assign (v := .bool _) rfl) rfl ?_
          exact p_nil (x_then ⟨_, rfl, _, _, upds_eq ⟨rfl, trivial⟩, by first | (simp only [decide_eq_true_eq, eq_self, true_iff, iff_true, iff_false, Bool.false_eq_true, false_iff, ge_iff_le, gt_iff_lt, true_and, and_true, false_and, and_false, true_or, or_true, false_or, or_false, not_true_eq_false, not_false_eq_true]; omega) | simp | omega | simp_all, S⟩)
      · refine p_val (e_pick_t rfl rfl) rfl ?_
        refine p_val (e_move (v := .bool _) rfl) rfl ?_
        refine p_no rfl rfl rfl rfl rfl ?_
        refine p_no rfl rfl rfl rfl rfl ?_
        refine p_no rfl rfl rfl rfl rfl ?_
        refine p_val (e_pick_f rfl rfl) rfl ?_
        refine p_val (e_move (v := .bool _) rfl) rfl ?_
        refine p_no rfl rfl rfl rfl rfl ?_
        refine p_no rfl rfl rfl rfl rfl ?_
        refine p_no rfl rfl rfl rfl rfl ?_
        refine p_val (e_pick_f rfl rfl) rfl ?_
        refine p_val (e_move (v := .bool _) rfl) rfl ?_
        refine p_no rfl rfl rfl rfl rfl ?_
        refine p_no rfl rfl rfl rfl rfl ?_
        refine p_no rfl rfl rfl rfl rfl ?_
        refine p_val (e_pick_f rfl rfl) rfl ?_
        refine p_val (e_move (v := .bool _) rfl) rfl ?_
        refine p_no rfl rfl rfl rfl rfl ?_
        refine p_no rfl rfl rfl rfl rfl ?_
        refine p_no rfl rfl rfl rfl rfl ?_
        refine p_val (e_pick_f rfl rfl) rfl ?_
        refine p_val (e_assign (v := .bool _) rfl) rfl ?_
        exact p_nil (x_then ⟨_, rfl, _, _, upds_eq ⟨rfl, trivial⟩, by first | (simp only [decide_eq_true_eq, eq_self, true_iff, iff_true, iff_false, Bool.false_eq_true, false_iff, ge_iff_le, gt_iff_lt, true_and, and_true, false_and, and_false, true_or, or_true, false_or, or_false, not_true_eq_false, not_false_eq_true]; omega) | simp | omega | simp_all, S⟩)
    · refine p_val (e_move (v := .bool _) rfl) rfl ?_
      refine p_no rfl rfl rfl rfl rfl ?_
      refine p_no rfl rfl rfl rfl rfl ?_
      refine p_no rfl rfl rfl rfl rfl ?_
      refine p_val (e_pick_f rfl rfl) rfl ?_
      refine p_val (e_move (v := .bool _) rfl) rfl ?_
      refine p_no rfl rfl rfl rfl rfl ?_
      refine p_no rfl rfl rfl rfl rfl ?_
      refine p_no rfl rfl rfl rfl rfl ?_
      refine p_val (e_pick_f rfl rfl) rfl ?_
      refine p_val (e_move (v := .bool _) rfl) rfl ?_
      refine p_no rfl rfl rfl rfl rfl ?_
      refine p_no rfl rfl rfl rfl rfl ?_
      refine p_no rfl rfl rfl rfl rfl ?_
      refine p_val (e_pick_f rfl rfl) rfl ?_
      refine p_val (e_move (v := .bool _) rfl) rfl ?_
      refine p_no rfl rfl rfl rfl rfl ?_
      refine p_no rfl rfl rfl rfl rfl ?_
      refine p_no rfl rfl rfl rfl rfl ?_
      refine p_val (e_pick_f rfl rfl) rfl ?_
      refine p_val (e_move (v := .bool _) rfl) rfl ?_
      refine p_no rfl rfl rfl rfl rfl ?_
      refine p_no rfl rfl rfl rfl rfl ?_
      refine p_no rfl rfl rfl rfl rfl ?_
      refine p_val (e_pick_f rfl rfl) rfl ?_
      refine p_val (e_assign (v := .bool _) rfl) rfl ?_
      exact p_nil (x_then ⟨_, rfl, _, _, upds_eq ⟨rfl, trivial⟩, by first | (simp only [decide_eq_true_eq, eq_self, true_iff, iff_true, iff_false, Bool.false_eq_true, false_iff, ge_iff_le, gt_iff_lt, true_and, and_true, false_and, and_false, true_or, or_true, false_or, or_false, not_true_eq_false, not_false_eq_true]; omega) | simp | omega | simp_all, S⟩)
  · rintro f w ⟨u, b2, rfl, hb2, S⟩
    refine x_then (s_ret ?_)
    exact post1 (v := .bool _) Try.results23 rfl (⟨by congr 1; exact Bool.eq_iff_iff.2 (hb2.trans (Iff.trans (by unfold Rcp.right; omega) decide_eq_true_iff.symm)), S.to_below⟩)
theorem l12text (w0 : World) (r : Rcp) (hr : r.ok) :
    Ret Try.prog 20 [.agg (cat (rcpC r)).toArray] w0 fun v w' => ∃ k c, v = .slice (at_ k) (rtext r).length c ∧ St w0 w' [] [k] [Rw 5 1 (rtext r).length c (bv (rtext r))] := by
  refine enter Try.func20 rfl Try.ntmps20 (Nat.le_of_ble_eq_true rfl) ?_
  have S := St.init w0
  have h1 := num_len r.t
  have h2 := num_len r.c
  have h3 := num_len r.s
  refine s_seq (s_plain ?_)
  refine p_does (d_boxA S rfl) rfl ?_
  rintro _ w ⟨b1, rfl, S⟩
  refine p_val (e_assign (v := .slice _ _ _) rfl) rfl ?_
  refine p_nil (x_then (s_seq (s_plain ?_)))
  refine p_does (d_allocA S zs56) rfl ?_
  rintro _ w ⟨b3, rfl, S⟩
  have S := pen_new S
  refine p_nil (x_then (s_seq ?_))
  refine s_drawK (ks := [some b1]) (ps := [Ex _ _]) (S.pk [2] rfl) [(true, 0), (true, 1), (true, 3), (true, 4), (true, 6), (true, 7), (true, 9), (true, 10), (true, 12), (true, 13), (false, 2), (false, 5), (false, 8), (false, 11), (false, 14), (false, 15)] [16] [16] mixed (by kernel_rfl) (by repeat (first | exact Calm.post _ _ _ | refine Calm.then ?_ _ | refine Calm.inB ?_ _)) (fun hS => ?_)
  have S := S.drew
  refine q_val (fun w hS => e_field rfl Try.underlying46 rfl sz3 (by decide)) rfl hS ?_
  refine q_val (fun w hS => e_loadF1 (i := 0) (off := 0) rfl ag3 hS (j := 0) rfl rfl rfl (by first | with_reducible assumption | (simp [cat, rcpC, hr.1, hr.2]; done) | (simp [cat, rcpC, hr.1, hr.2]; omega) | rfl)) rfl hS ?_
  refine q_val (fun w hS => e_field rfl Try.underlying46 rfl sz3 (by decide)) rfl hS ?_
  refine q_val (fun w hS => e_loadF1 (i := 1) (off := 1) rfl ag3 hS (j := 0) rfl rfl rfl (by first | with_reducible assumption | (simp [cat, rcpC, hr.1, hr.2]; done) | (simp [cat, rcpC, hr.1, hr.2]; omega) | rfl)) rfl hS ?_
  refine q_val (fun w hS => e_field rfl Try.underlying46 rfl sz3 (by decide)) rfl hS ?_
  refine q_val (fun w hS => e_loadF1 (i := 2) (off := 2) rfl ag3 hS (j := 0) rfl rfl rfl (by first | with_reducible assumption | (simp [cat, rcpC, hr.1, hr.2]; done) | (simp [cat, rcpC, hr.1, hr.2]; omega) | rfl)) rfl hS ?_
  refine q_val (fun w hS => e_field rfl Try.underlying46 rfl sz44 (by decide)) rfl hS ?_
  refine q_val (fun w hS => e_loadFA (i := 3) (off := 3) rfl ag44 sz44 (by decide) hS (j := 0) rfl rfl rfl (by first | with_reducible assumption | (simp [cat, rcpC, hr.1, hr.2]; done) | (simp [cat, rcpC, hr.1, hr.2]; omega) | rfl) (by first | with_reducible assumption | (simp [cat, rcpC, hr.1, hr.2]; done) | (simp [cat, rcpC, hr.1, hr.2]; omega) | rfl)) rfl hS ?_
  refine q_val (fun w hS => e_field rfl Try.underlying46 rfl sz44 (by decide)) rfl hS ?_
  refine q_val (fun w hS => e_loadFA (i := 4) (off := 35) rfl ag44 sz44 (by decide) hS (j := 0) rfl rfl rfl (by first | with_reducible assumption | (simp [cat, rcpC, hr.1, hr.2]; done) | (simp [cat, rcpC, hr.1, hr.2]; omega) | rfl) (by first | with_reducible assumption | (simp [cat, rcpC, hr.1, hr.2]; done) | (simp [cat, rcpC, hr.1, hr.2]; omega) | rfl)) rfl hS ?_
  refine q_does (d_call Try.func56 nm56 rfl rfl (pen_num _ _ _ _ _ _ (S.hr [0, 1] rfl) (by first | omega | (simp only [List.length_append, List.length_cons, List.length_nil, bv_length, rcpC, hr.1, hr.2]; omega) | (simp [cat, rcpC, hr.1, hr.2]; omega)))) rfl ?_
  rintro _ w ⟨rfl, k6, c6, T⟩
  have S := (S.call [0, 1] T rfl).pk [0, 1, 4] rfl
  have hS := S.pk [2] rfl
  refine ⟨hS, ?_⟩
  refine q_does (d_call Try.func56 nm56 rfl rfl (pen_num _ _ _ _ _ _ (S.hr [0, 1] rfl) (by first | omega | (simp only [List.length_append, List.length_cons, List.length_nil, bv_length, rcpC, hr.1, hr.2]; omega) | (simp [cat, rcpC, hr.1, hr.2]; omega)))) rfl ?_
  rintro _ w ⟨rfl, k9, c9, T⟩
  have S := (S.call [0, 1] T rfl).pk [0, 1, 4] rfl
  have hS := S.pk [2] rfl
  refine ⟨hS, ?_⟩
  refine q_does (d_call Try.func56 nm56 rfl rfl (pen_num _ _ _ _ _ _ (S.hr [0, 1] rfl) (by first | omega | (simp only [List.length_append, List.length_cons, List.length_nil, bv_length, rcpC, hr.1, hr.2]; omega) | (simp [cat, rcpC, hr.1, hr.2]; omega)))) rfl ?_
  rintro _ w ⟨rfl, k12, c12, T⟩
  have S := (S.call [0, 1] T rfl).pk [0, 1, 4] rfl
  have hS := S.pk [2] rfl
  refine ⟨hS, ?_⟩
  refine q_does (d_call Try.func57 nm57 rfl rfl (pen_sum _ _ _ _ _ _ (S.hr [0, 1] rfl) (by first | with_reducible assumption | (simp [cat, rcpC, hr.1, hr.2]; done) | (simp [cat, rcpC, hr.1, hr.2]; omega) | rfl) (by first | omega | (simp only [List.length_append, List.length_cons, List.length_nil, bv_length, rcpC, hr.1, hr.2]; omega) | (simp [cat, rcpC, hr.1, hr.2]; omega)))) rfl ?_
  rintro _ w ⟨rfl, k15, c15, T⟩
  have S := (S.call [0, 1] T rfl).pk [0, 1, 4] rfl
  have hS := S.pk [2] rfl
  refine ⟨hS, ?_⟩
  refine q_does (d_call Try.func57 nm57 rfl rfl (pen_sum _ _ _ _ _ _ (S.hr [0, 1] rfl) (by first | with_reducible assumption | (simp [cat, rcpC, hr.1, hr.2]; done) | (simp [cat, rcpC, hr.1, hr.2]; omega) | rfl) (by first | omega | (simp only [List.length_append, List.length_cons, List.length_nil, bv_length, rcpC, hr.1, hr.2]; omega) | (simp [cat, rcpC, hr.1, hr.2]; omega)))) rfl ?_
  rintro _ w ⟨rfl, k18, c18, T⟩
  have S := (S.call [0, 1] T rfl).pk [0, 1, 4] rfl
  have hS := S.pk [2] rfl
  refine ⟨hS, ?_⟩
  refine q_does (d_call Try.func26 nm26 rfl rfl (pen_bytes _ _ _ _ _ (S.exact_ 0 rfl rfl) (S.rdRw 1 rfl rfl) (by first | omega | (simp only [List.length_append, List.length_cons, List.length_nil, bv_length, rcpC, hr.1, hr.2]; omega) | (simp [cat, rcpC, hr.1, hr.2]; omega)))) rfl ?_
  rintro _ w ⟨k19, c19, rfl, T⟩
  have S := S.merge T rfl
  have hS := S.pk [3] rfl
  refine ⟨hS, ?_⟩
  refine q_nil ?_
  refine p_val (e_assign (v := .slice _ _ _) rfl) rfl ?_
  refine p_nil (x_then (s_ret ?_))
  exact post1 (v := .slice _ _ _) Try.results20 rfl (by have e : [] ++ num r.t ++ num r.c ++ num r.s ++ r.h ++ r.b = rtext r := by { simp [rtext] }; rw [← e]; exact ⟨_, _, rfl, S.pk [0] rfl⟩)
end Go.Proofs.Ytcgcjklpilbndaa

/- More on what reads. It proves no statement by itself. -/
set_option linter.unusedSimpArgs false
set_option linter.unusedVariables false
namespace Go.Proofs.Ytcgcjklpilbndaa
open Go Go.RowKit E
theorem rUpto_le {m e a e1 : Int} {l l1 : List Nat} (hm : 0 ≤ m) (h : rUpto m e l = (a, e1, l1)) : a ≤ m := by
  unfold rUpto at h
  simp only [Prod.mk.injEq] at h
  obtain ⟨h1, h2, h3⟩ := h
  rw [h2] at h1
  split at h1
  · rename_i he
    split at h2
    · unfold rFail at h2
      split at h2
      · omega
      · omega
    · omega
  · omega
theorem rText_len {m e e1 : Int} {l s l1 : List Nat} (hm : 0 ≤ m) (h : rText m e l = (s, e1, l1)) : (s.length : Int) ≤ m := by
  have h1 := rUpto_le (m := m) (e := e) (l := l) hm (a := (rUpto m e l).1) (e1 := (rUpto m e l).2.1) (l1 := (rUpto m e l).2.2) rfl
  unfold rText at h
  rcases rRaw_len h with h2 | h2
  · subst h2; simpa using hm
  · omega
end Go.Proofs.Ytcgcjklpilbndaa

/- Receipts that are signed: their bytes, and what is read of bytes. It proves no statement by itself. -/
set_option linter.unusedSimpArgs false
set_option linter.unusedVariables false
set_option maxRecDepth 100000
set_option maxHeartbeats 1000000
namespace Go.Proofs.Ytcgcjklpilbndaa
open Go Go.RowKit E
attribute [local irreducible] wpList seqH treeH
def sgdC (r : Rcp) (A : Option Addr) (n c : Nat) : List (List Value) := [[.int .i64 r.t], [.int .i64 r.c], [.int .i64 r.s], bv r.h, bv r.b, [.slice A n c]]
def sput (r : Rcp) (s : List Nat) : List Nat := num (rtext r).length ++ rtext r ++ num s.length ++ s
def rSgd (l : List Nat) : Rcp × List Nat × Int :=
  let a := rText 65536 0 l
  let b := rText 65536 a.2.1 a.2.2
  let e := rDone b.2.1 b.2.2
  if e = 0 then (if (rRcp a.1).2 = 0 then ((rRcp a.1).1, b.1, 0) else (Rcp.zero, [], (rRcp a.1).2)) else (Rcp.zero, [], e)
theorem rcp_ok (l : List Nat) : (rRcp l).1.ok := by
  have hs : ∀ e l, (rSum e l).1.length = 32 := fun e l => length_sum32 _
  unfold rRcp
  simp only
  split
  · exact ⟨hs _ _, hs _ _⟩
  · exact ⟨length_zsum, length_zsum⟩
theorem sg_put (w0 : World) (r : Rcp) (A : Option Addr) (c : Nat) (s : List Nat) (hr : r.ok) (R : Rd w0 1 A s.length (bv s)) (nR : s.length ≤ 1099510000000) :
    Ret Try.prog 28 [.agg (cat (sgdC r A s.length c)).toArray] w0 fun v w' => ∃ k c, v = .slice (at_ k) (sput r s).length c ∧ St w0 w' [] [k] [Rw 5 1 (sput r s).length c (bv (sput r s))] := by
  refine enter Try.func28 rfl Try.ntmps28 (Nat.le_of_ble_eq_true rfl) ?_
  have S := St.init w0
  have h1 := rtext_len hr
  have h2 := num_len (rtext r).length
  have h3 := num_len s.length
  refine s_seq (s_plain ?_)
  refine p_does (d_boxA S rfl) rfl ?_
  rintro _ w ⟨b1, rfl, S⟩
  refine p_val (e_assign (v := .slice _ _ _) rfl) rfl ?_
  refine p_nil (x_then (s_seq (s_plain ?_)))
  refine p_does (d_allocA S zs56) rfl ?_
  rintro _ w ⟨b3, rfl, S⟩
  have S := pen_new S
  refine p_nil (x_then (s_seq ?_))
  refine s_drawK (ks := [some b1]) (ps := [Ex _ _]) (S.pk [2] rfl) [(true, 0), (true, 1), (true, 4), (true, 5), (false, 2), (false, 3), (false, 6), (false, 7)] [8] [8] mixed (by kernel_rfl) (by repeat (first | exact Calm.post _ _ _ | refine Calm.then ?_ _ | refine Calm.inB ?_ _)) (fun hS => ?_)
  have S := S.drew
  refine q_val (fun w hS => e_field rfl Try.underlying54 rfl sz46 (by decide)) rfl hS ?_
  refine q_val (fun w hS => e_loadFS (i := 0) (n := 5) (off := 0) rfl ag46 sz46 (by decide) hS (j := 0) rfl rfl (by first | with_reducible assumption | (rw [bv_length]; with_reducible assumption) | (rw [List.size_toArray, bv_length]; with_reducible assumption) | (simp [cat, sgdC, hr.1, hr.2]; done) | (simp [cat, sgdC, hr.1, hr.2]; omega) | rfl) (by first | with_reducible assumption | (rw [bv_length]; with_reducible assumption) | (rw [List.size_toArray, bv_length]; with_reducible assumption) | (simp [cat, sgdC, hr.1, hr.2]; done) | (simp [cat, sgdC, hr.1, hr.2]; omega) | rfl)) rfl hS ?_
  refine q_val (fun w hS => e_field rfl Try.underlying54 rfl sz47 (by decide)) rfl hS ?_
  refine q_val (fun w hS => e_loadF1 (i := 5) (off := 67) rfl ag47 hS (j := 0) rfl rfl rfl (by first | with_reducible assumption | (rw [bv_length]; with_reducible assumption) | (rw [List.size_toArray, bv_length]; with_reducible assumption) | (simp [cat, sgdC, hr.1, hr.2]; done) | (simp [cat, sgdC, hr.1, hr.2]; omega) | rfl)) rfl hS ?_
  refine q_does (d_call Try.func21 nm21 rfl rfl (rc_text _ r hr)) rfl ?_
  rintro _ w ⟨k6, c6, rfl, T⟩
  have S := S.merge T rfl
  have hS := S.pk [3] rfl
  refine ⟨hS, ?_⟩
  refine q_does (d_call Try.func25 nm25 rfl rfl (pen_text _ _ _ _ _ _ _ _ _ (S.hr [1, 2] rfl) (S.rdRw 0 rfl rfl) (S.offRow 0 [1, 2] rfl rfl) (by first | omega | (simp only [List.length_append, List.length_cons, List.length_nil, bv_length, sgdC, hr.1, hr.2]; omega) | (simp [cat, sgdC, hr.1, hr.2]; omega)))) rfl ?_
  rintro _ w ⟨rfl, k7, c7, T⟩
  have S := (S.call [1, 2] T rfl).pk [2, 0, 1, 5] rfl
  have hS := S.pk [3] rfl
  refine ⟨hS, ?_⟩
  refine q_does (d_call Try.func25 nm25 rfl rfl (pen_text _ _ _ _ _ _ _ _ _ (S.hr [1, 2] rfl) (S.rdOld R rfl) (S.offOld [1, 2] R (by decide) Off.nil rfl) (by first | omega | (simp only [List.length_append, List.length_cons, List.length_nil, bv_length, sgdC, hr.1, hr.2]; omega) | (simp [cat, sgdC, hr.1, hr.2]; omega)))) rfl ?_
  rintro _ w ⟨rfl, k10, c10, T⟩
  have S := (S.call [1, 2] T rfl).pk [2, 0, 1, 5] rfl
  have hS := S.pk [3] rfl
  refine ⟨hS, ?_⟩
  refine q_does (d_call Try.func26 nm26 rfl rfl (pen_bytes _ _ _ _ _ (S.exact_ 1 rfl rfl) (S.rdRw 2 rfl rfl) (by first | omega | (simp only [List.length_append, List.length_cons, List.length_nil, bv_length, sgdC, hr.1, hr.2]; omega) | (simp [cat, sgdC, hr.1, hr.2]; omega)))) rfl ?_
  rintro _ w ⟨k11, c11, rfl, T⟩
  have S := S.merge T rfl
  have hS := S.pk [4] rfl
  refine ⟨hS, ?_⟩
  refine q_nil ?_
  refine p_val (e_assign (v := .slice _ _ _) rfl) rfl ?_
  refine p_nil (x_then (s_ret ?_))
  exact post1 (v := .slice _ _ _) Try.results28 rfl (by have e : [] ++ num (rtext r).length ++ rtext r ++ num s.length ++ s = sput r s := by { simp [sput] }; rw [← e]; exact ⟨_, _, rfl, S.pk [0] rfl⟩)
theorem sg_get (w0 : World) (A : Option Addr) (c : Nat) (l : List Nat) (R : Rd w0 1 A l.length (bv l)) (bR : Bytes l) (cR : l.length ≤ c) (nR : l.length ≤ 1099511000000) :
    Ret Try.prog 27 [.slice A l.length c] w0 fun v w' => ∃ k c2, v = .tuple #[.agg (cat (sgdC (rSgd l).1 (at_ k) (rSgd l).2.1.length c2)).toArray, .int .i64 (rSgd l).2.2] ∧ St w0 w' [] [k] [Rw 5 1 (rSgd l).2.1.length c2 (bv (rSgd l).2.1)] := by
  refine enter Try.func27 rfl Try.ntmps27 (Nat.le_of_ble_eq_true rfl) ?_
  have S := St.init w0
  refine s_seq (s_plain ?_)
  refine p_does (d_allocA S zs54) rfl ?_
  rintro _ w ⟨b2, rfl, S⟩
  refine p_val (e_assign (v := .int _ _) rfl) rfl ?_
  refine p_nil (x_then (s_seq (s_plain ?_)))
  refine p_val (e_move (v := .slice _ _ _) rfl) rfl ?_
  refine p_does (d_call Try.func52 nm52 rfl rfl (eye_look _ _ _ _)) rfl ?_
  rintro _ w ⟨b11, rfl, T⟩
  have S := S.merge T rfl
  refine p_val (e_assign (v := .pointer _) rfl) rfl ?_
  refine p_nil (x_then (s_seq (s_plain ?_)))
  refine p_val (e_move (v := .pointer _) rfl) rfl ?_
  refine p_does (d_call Try.func59 nm59 rfl rfl (eye_text _ _ _ _ _ _ _ (S.hr [0] rfl) (S.rdOld R rfl) (S.offOld [0] R (by decide) Off.nil rfl) bR cR nR)) rfl ?_
  rintro _ w ⟨k13, cc13, s13, e13, l13, A13, c13, q13, rfl, t13, T⟩
  have S := (S.call [0] T rfl).pk [0, 1, 3] rfl
  have R13 := t13.rd _ R
  have bR13 := t13.by_ bR
  have cR13 := t13.cap
  have nR13 := t13.len nR
  refine p_val (e_move (v := .pointer _) rfl) rfl ?_
  refine p_does (d_call Try.func59 nm59 rfl rfl (eye_text _ _ _ _ _ _ _ (S.hr [1] rfl) (S.rdOld R13 rfl) (S.offOld [1] R13 (by decide) Off.nil rfl) bR13 cR13 nR13)) rfl ?_
  rintro _ w ⟨k15, cc15, s15, e15, l15, A15, c15, q15, rfl, t15, T⟩
  have S := (S.call [1] T rfl).pk [0, 2, 1, 4] rfl
  have R15 := t15.rd _ R13
  have bR15 := t15.by_ bR13
  have cR15 := t15.cap
  have nR15 := t15.len nR13
  have hok := rcp_ok s13
  have bs13 : Bytes s13 := rText_bytes bR q13
  have ns13 := rText_len (by decide) q13
  refine p_val (e_assign (v := .slice _ _ _) rfl) rfl ?_
  refine p_val (e_assign (v := .slice _ _ _) rfl) rfl ?_
  refine p_nil (x_then (s_seq (s_seq (s_plain ?_))))
  refine p_val (e_move (v := .pointer _) rfl) rfl ?_
  refine p_does (d_call Try.func55 nm55 rfl rfl (eye_done _ _ _ _ _ _ (S.hr [2] rfl))) rfl ?_
  rintro _ w ⟨rfl, T⟩
  have S := (S.call [2] T rfl).pk [1, 2, 0, 4] rfl
  refine p_val (e_assign (v := .int _ _) rfl) rfl ?_
  refine p_nil (x_then (s_seq (s_plain ?_)))
  refine p_val (e_move (v := .int _ _) rfl) rfl ?_
  refine p_val (e_neq rfl rfl) rfl ?_
  refine p_nil (x_then ?_)
  refine s_cond rfl (fun hc19 => ?_) (fun hc19 => ?_)
  · have e0 : rSgd l = (Rcp.zero, [], rDone e15 l15) := by simp only [rSgd, q13, q15, if_neg hc19]
    refine s_seq (s_plain ?_)
    refine p_val (e_buildS0 bt54) rfl ?_
    refine p_val (e_move (v := .int _ _) rfl) rfl ?_
    refine p_does (d_storeW S 3 rfl rfl (by first | exact bv_one _ | exact sv_one _ | exact iv_one _ | with_reducible assumption | (refine One.mem ?_; repeat (first | exact One.bv _ | exact One.sv _ | exact One.iv _ | exact One.nil | exact One.cat0 | refine One.cat1 ?_ ?_ | refine One.cons rfl ?_ | refine One.append ?_ ?_))) sz54 (by first | with_reducible assumption | (rw [bv_length]; with_reducible assumption) | (rw [List.size_toArray, bv_length]; with_reducible assumption) | (simp [cat, length_zsum, sgdC, rcpC, hok.1, hok.2, zc46, zc54]; done) | (simp [cat, length_zsum, sgdC, rcpC, hok.1, hok.2, zc46, zc54]; omega) | rfl) rfl rfl (by first | with_reducible assumption | (rw [bv_length]; with_reducible assumption) | (rw [List.size_toArray, bv_length]; with_reducible assumption) | (simp [cat, length_zsum, sgdC, rcpC, hok.1, hok.2, zc46, zc54]; done) | (simp [cat, length_zsum, sgdC, rcpC, hok.1, hok.2, zc46, zc54]; omega) | rfl)) rfl ?_
    intro _ w S
    refine p_val (e_assign (v := .int _ _) rfl) rfl ?_
    refine p_nil (x_then (s_ret (x_then_ret ?_)))
    exact postC1 (v := .int _ _) Try.results27 S 3 rfl rfl rfl rfl ag54 sz54 (by first | with_reducible assumption | (rw [bv_length]; with_reducible assumption) | (rw [List.size_toArray, bv_length]; with_reducible assumption) | (simp [cat, length_zsum, sgdC, rcpC, hok.1, hok.2, zc46, zc54]; done) | (simp [cat, length_zsum, sgdC, rcpC, hok.1, hok.2, zc46, zc54]; omega) | rfl) (by rw [e0]; exact ⟨none, 0, rfl, S.none_.addNil 5 1⟩)
  · refine s_skip (x_then (s_seq (s_plain ?_)))
    refine p_val (e_move (v := .slice _ _ _) rfl) rfl ?_
    refine p_does (d_call Try.func19 nm19 rfl rfl (rc_read _ _ _ _ (S.rdRw 1 rfl rfl) (bs13) (S.capRw 1 rfl rfl) (by first | omega | (simp only [List.length_append, List.length_cons, List.length_nil, bv_length, length_zsum, sgdC, rcpC, hok.1, hok.2, zc46, zc54]; omega) | (simp [cat, length_zsum, sgdC, rcpC, hok.1, hok.2, zc46, zc54]; omega)))) rfl ?_
    rintro _ w ⟨rfl, hB⟩
    have S := S.below hB
    refine p_val (e_move (v := .tuple _) rfl) rfl ?_
    refine p_val (e_extract rfl rfl) rfl ?_
    refine p_val (e_extract rfl rfl) rfl ?_
    refine p_does (d_allocA S zs46) rfl ?_
    rintro _ w ⟨b8, rfl, S⟩
    refine p_does (d_storeW S 0 rfl rfl (by first | exact bv_one _ | exact sv_one _ | exact iv_one _ | with_reducible assumption | (refine One.mem ?_; repeat (first | exact One.bv _ | exact One.sv _ | exact One.iv _ | exact One.nil | exact One.cat0 | refine One.cat1 ?_ ?_ | refine One.cons rfl ?_ | refine One.append ?_ ?_))) sz46 (by first | with_reducible assumption | (rw [bv_length]; with_reducible assumption) | (rw [List.size_toArray, bv_length]; with_reducible assumption) | (simp [cat, length_zsum, sgdC, rcpC, hok.1, hok.2, zc46, zc54]; done) | (simp [cat, length_zsum, sgdC, rcpC, hok.1, hok.2, zc46, zc54]; omega) | rfl) rfl rfl (by first | with_reducible assumption | (rw [bv_length]; with_reducible assumption) | (rw [List.size_toArray, bv_length]; with_reducible assumption) | (simp [cat, length_zsum, sgdC, rcpC, hok.1, hok.2, zc46, zc54]; done) | (simp [cat, length_zsum, sgdC, rcpC, hok.1, hok.2, zc46, zc54]; omega) | rfl)) rfl ?_
    intro _ w S
    refine p_val (e_assign (v := .int _ _) rfl) rfl ?_
    refine p_nil (x_then (s_seq (s_seq (s_plain ?_))))
    refine p_val (e_move (v := .int _ _) rfl) rfl ?_
    refine p_val (e_neq rfl rfl) rfl ?_
    refine p_nil (x_then ?_)
    refine s_cond rfl (fun hc28 => ?_) (fun hc28 => ?_)
    · have e0 : rSgd l = (Rcp.zero, [], (rRcp s13).2) := by simp only [rSgd, q13, q15, if_pos (Classical.not_not.1 hc19), if_neg hc28]
      refine s_seq (s_plain ?_)
      refine p_val (e_buildS0 bt54) rfl ?_
      refine p_val (e_move (v := .int _ _) rfl) rfl ?_
      refine p_does (d_storeW S 4 rfl rfl (by first | exact bv_one _ | exact sv_one _ | exact iv_one _ | with_reducible assumption | (refine One.mem ?_; repeat (first | exact One.bv _ | exact One.sv _ | exact One.iv _ | exact One.nil | exact One.cat0 | refine One.cat1 ?_ ?_ | refine One.cons rfl ?_ | refine One.append ?_ ?_))) sz54 (by first | with_reducible assumption | (rw [bv_length]; with_reducible assumption) | (rw [List.size_toArray, bv_length]; with_reducible assumption) | (simp [cat, length_zsum, sgdC, rcpC, hok.1, hok.2, zc46, zc54]; done) | (simp [cat, length_zsum, sgdC, rcpC, hok.1, hok.2, zc46, zc54]; omega) | rfl) rfl rfl (by first | with_reducible assumption | (rw [bv_length]; with_reducible assumption) | (rw [List.size_toArray, bv_length]; with_reducible assumption) | (simp [cat, length_zsum, sgdC, rcpC, hok.1, hok.2, zc46, zc54]; done) | (simp [cat, length_zsum, sgdC, rcpC, hok.1, hok.2, zc46, zc54]; omega) | rfl)) rfl ?_
      intro _ w S
      refine p_val (e_assign (v := .int _ _) rfl) rfl ?_
      refine p_nil (x_then (s_ret (x_then_ret ?_)))
      exact postC1 (v := .int _ _) Try.results27 S 4 rfl rfl rfl rfl ag54 sz54 (by first | with_reducible assumption | (rw [bv_length]; with_reducible assumption) | (rw [List.size_toArray, bv_length]; with_reducible assumption) | (simp [cat, length_zsum, sgdC, rcpC, hok.1, hok.2, zc46, zc54]; done) | (simp [cat, length_zsum, sgdC, rcpC, hok.1, hok.2, zc46, zc54]; omega) | rfl) (by rw [e0]; exact ⟨none, 0, rfl, S.none_.addNil 5 1⟩)
    · have e0 : rSgd l = ((rRcp s13).1, s15, 0) := by simp only [rSgd, q13, q15, if_pos (Classical.not_not.1 hc19), if_pos (Classical.not_not.1 hc28)]
      refine s_skip (x_then (s_seq (s_plain ?_)))
      refine p_val (e_loadW 0 rfl ag46 sz46 S rfl rfl (by first | with_reducible assumption | (rw [bv_length]; with_reducible assumption) | (rw [List.size_toArray, bv_length]; with_reducible assumption) | (simp [cat, length_zsum, sgdC, rcpC, hok.1, hok.2, zc46, zc54]; done) | (simp [cat, length_zsum, sgdC, rcpC, hok.1, hok.2, zc46, zc54]; omega) | rfl)) rfl ?_
      refine p_val (e_move (v := .slice _ _ _) rfl) rfl ?_
      refine p_val (e_buildS bt54 (Eq.trans (fill_cat (v := .agg _) (l' := _) 0 5 rfl (rfl) (by first | with_reducible assumption | (rw [bv_length]; with_reducible assumption) | (rw [List.size_toArray, bv_length]; with_reducible assumption) | (simp [cat, length_zsum, sgdC, rcpC, hok.1, hok.2, zc46, zc54]; done) | (simp [cat, length_zsum, sgdC, rcpC, hok.1, hok.2, zc46, zc54]; omega) | rfl) (by first | with_reducible assumption | (rw [bv_length]; with_reducible assumption) | (rw [List.size_toArray, bv_length]; with_reducible assumption) | (simp [cat, length_zsum, sgdC, rcpC, hok.1, hok.2, zc46, zc54]; done) | (simp [cat, length_zsum, sgdC, rcpC, hok.1, hok.2, zc46, zc54]; omega) | rfl) (by first | with_reducible assumption | (rw [bv_length]; with_reducible assumption) | (rw [List.size_toArray, bv_length]; with_reducible assumption) | (simp [cat, length_zsum, sgdC, rcpC, hok.1, hok.2, zc46, zc54]; done) | (simp [cat, length_zsum, sgdC, rcpC, hok.1, hok.2, zc46, zc54]; omega) | rfl)) (Eq.trans (fill_cat (v := .slice _ _ _) (l' := [[_]]) 5 1 rfl (rfl) (by first | with_reducible assumption | (rw [bv_length]; with_reducible assumption) | (rw [List.size_toArray, bv_length]; with_reducible assumption) | (simp [cat, length_zsum, sgdC, rcpC, hok.1, hok.2, zc46, zc54]; done) | (simp [cat, length_zsum, sgdC, rcpC, hok.1, hok.2, zc46, zc54]; omega) | rfl) (by first | with_reducible assumption | (rw [bv_length]; with_reducible assumption) | (rw [List.size_toArray, bv_length]; with_reducible assumption) | (simp [cat, length_zsum, sgdC, rcpC, hok.1, hok.2, zc46, zc54]; done) | (simp [cat, length_zsum, sgdC, rcpC, hok.1, hok.2, zc46, zc54]; omega) | rfl) (by first | with_reducible assumption | (rw [bv_length]; with_reducible assumption) | (rw [List.size_toArray, bv_length]; with_reducible assumption) | (simp [cat, length_zsum, sgdC, rcpC, hok.1, hok.2, zc46, zc54]; done) | (simp [cat, length_zsum, sgdC, rcpC, hok.1, hok.2, zc46, zc54]; omega) | rfl)) rfl))) rfl ?_
      refine p_does (d_storeW S 4 rfl rfl (by first | exact bv_one _ | exact sv_one _ | exact iv_one _ | with_reducible assumption | (refine One.mem ?_; repeat (first | exact One.bv _ | exact One.sv _ | exact One.iv _ | exact One.nil | exact One.cat0 | refine One.cat1 ?_ ?_ | refine One.cons rfl ?_ | refine One.append ?_ ?_))) sz54 (by first | with_reducible assumption | (rw [bv_length]; with_reducible assumption) | (rw [List.size_toArray, bv_length]; with_reducible assumption) | (simp [cat, length_zsum, sgdC, rcpC, hok.1, hok.2, zc46, zc54]; done) | (simp [cat, length_zsum, sgdC, rcpC, hok.1, hok.2, zc46, zc54]; omega) | rfl) rfl rfl (by first | with_reducible assumption | (rw [bv_length]; with_reducible assumption) | (rw [List.size_toArray, bv_length]; with_reducible assumption) | (simp [cat, length_zsum, sgdC, rcpC, hok.1, hok.2, zc46, zc54]; done) | (simp [cat, length_zsum, sgdC, rcpC, hok.1, hok.2, zc46, zc54]; omega) | rfl)) rfl ?_
      intro _ w S
      refine p_val (e_assign (v := .int _ _) rfl) rfl ?_
      refine p_nil (x_then (s_ret ?_))
      exact postC1 (v := .int _ _) Try.results27 S 4 rfl rfl rfl rfl ag54 sz54 (by first | with_reducible assumption | (rw [bv_length]; with_reducible assumption) | (rw [List.size_toArray, bv_length]; with_reducible assumption) | (simp [cat, length_zsum, sgdC, rcpC, hok.1, hok.2, zc46, zc54]; done) | (simp [cat, length_zsum, sgdC, rcpC, hok.1, hok.2, zc46, zc54]; omega) | rfl) (by rw [e0]; exact ⟨_, _, rfl, S.pk [1] rfl⟩)
end Go.Proofs.Ytcgcjklpilbndaa

/- Jobs: their bytes, and what is read of bytes. It proves no statement by itself. -/
set_option linter.unusedSimpArgs false
set_option linter.unusedVariables false
set_option maxRecDepth 100000
set_option maxHeartbeats 1000000
namespace Go.Proofs.Ytcgcjklpilbndaa
open Go Go.RowKit E
attribute [local irreducible] wpList seqH treeH
structure Jb where
  (c s : Int)
  (h : List Nat)
def jbC (j : Jb) (A : Option Addr) (n c : Nat) : List (List Value) := [[.int .i64 j.c], [.int .i64 j.s], bv j.h, [.slice A n c]]
def Jb.ok (j : Jb) : Prop := j.h.length = 32
def Jb.plain (j : Jb) : Prop := 0 ≤ j.c ∧ j.c ≤ 1048576 ∧ 0 ≤ j.s ∧ j.s ≤ 1048576
instance (j : Jb) : Decidable j.plain := by unfold Jb.plain; infer_instance
def Jb.zero : Jb := ⟨0, 0, zsum⟩
def jput (j : Jb) (b : List Nat) : List Nat := nums [j.c, j.s] ++ j.h ++ num b.length ++ b
theorem jput_len {j : Jb} {b : List Nat} (h : j.ok) : (jput j b).length ≤ 62 + b.length := by
  have h1 := nums_len [j.c, j.s]
  have h2 := num_len (b.length : Int)
  have h3 : j.h.length = 32 := h
  unfold jput
  simp only [List.length_append, List.length_cons, List.length_nil] at *; omega
def rJob (l : List Nat) : Jb × List Nat × Int :=
  let a := rUpto 1048576 0 l
  let b := rUpto 1048576 a.2.1 a.2.2
  let h := rSum b.2.1 b.2.2
  let t := rText 65536 h.2.1 h.2.2
  let e := rDone t.2.1 t.2.2
  if e = 0 then (⟨a.1, b.1, h.1⟩, t.1, 0) else (Jb.zero, [], e)
theorem jb_ok (l : List Nat) : (rJob l).1.ok := by
  unfold rJob
  simp only
  split
  · exact length_sum32 _
  · exact length_zsum
theorem jb_put (w0 : World) (j : Jb) (A : Option Addr) (c : Nat) (s : List Nat) (hj : j.ok) (R : Rd w0 1 A s.length (bv s)) (nR : s.length ≤ 1099510000000) :
    Ret Try.prog 67 [.agg (cat (jbC j A s.length c)).toArray] w0 fun v w' => ∃ k c, v = .slice (at_ k) (jput j s).length c ∧ St w0 w' [] [k] [Rw 5 1 (jput j s).length c (bv (jput j s))] := by
  refine enter Try.func67 rfl Try.ntmps67 (Nat.le_of_ble_eq_true rfl) ?_
  have S := St.init w0
  have hj' : j.h.length = 32 := hj
  have h2 := num_len s.length
  have h3 := nums_len [j.c, j.s]
  simp only [List.length_cons, List.length_nil] at h3
  refine s_seq (s_plain ?_)
  refine p_does (d_boxA S rfl) rfl ?_
  rintro _ w ⟨b1, rfl, S⟩
  refine p_val (e_assign (v := .slice _ _ _) rfl) rfl ?_
  refine p_nil (x_then (s_seq (s_plain ?_)))
  refine p_does (d_allocA S zs56) rfl ?_
  rintro _ w ⟨b3, rfl, S⟩
  have S := pen_new S
  refine p_nil (x_then (s_seq ?_))
  refine s_drawK (ks := [some b1]) (ps := [Ex _ _]) (S.pk [2] rfl) [(true, 0), (true, 1), (true, 2), (true, 3), (true, 6), (true, 7), (true, 9), (true, 10), (false, 4), (false, 5), (false, 8), (false, 11), (false, 12)] [13] [13] mixed (by kernel_rfl) (by repeat (first | exact Calm.post _ _ _ | refine Calm.then ?_ _ | refine Calm.inB ?_ _)) (fun hS => ?_)
  have S := S.drew
  refine q_val (fun w hS => e_field rfl Try.underlying82 rfl sz3 (by decide)) rfl hS ?_
  refine q_val (fun w hS => e_loadF1 (i := 0) (off := 0) rfl ag3 hS (j := 0) rfl rfl rfl (by first | with_reducible assumption | (rw [bv_length]; with_reducible assumption) | (rw [List.size_toArray, bv_length]; with_reducible assumption) | (simp [cat, jbC, hj']; done) | (simp [cat, jbC, hj']; omega) | rfl)) rfl hS ?_
  refine q_val (fun w hS => e_field rfl Try.underlying82 rfl sz3 (by decide)) rfl hS ?_
  refine q_val (fun w hS => e_loadF1 (i := 1) (off := 1) rfl ag3 hS (j := 0) rfl rfl rfl (by first | with_reducible assumption | (rw [bv_length]; with_reducible assumption) | (rw [List.size_toArray, bv_length]; with_reducible assumption) | (simp [cat, jbC, hj']; done) | (simp [cat, jbC, hj']; omega) | rfl)) rfl hS ?_
  refine q_val (fun w hS => e_field rfl Try.underlying82 rfl sz44 (by decide)) rfl hS ?_
  refine q_val (fun w hS => e_loadFA (i := 2) (off := 2) rfl ag44 sz44 (by decide) hS (j := 0) rfl rfl rfl (by first | with_reducible assumption | (rw [bv_length]; with_reducible assumption) | (rw [List.size_toArray, bv_length]; with_reducible assumption) | (simp [cat, jbC, hj']; done) | (simp [cat, jbC, hj']; omega) | rfl) (by first | with_reducible assumption | (rw [bv_length]; with_reducible assumption) | (rw [List.size_toArray, bv_length]; with_reducible assumption) | (simp [cat, jbC, hj']; done) | (simp [cat, jbC, hj']; omega) | rfl)) rfl hS ?_
  refine q_val (fun w hS => e_field rfl Try.underlying82 rfl sz47 (by decide)) rfl hS ?_
  refine q_val (fun w hS => e_loadF1 (i := 3) (off := 34) rfl ag47 hS (j := 0) rfl rfl rfl (by first | with_reducible assumption | (rw [bv_length]; with_reducible assumption) | (rw [List.size_toArray, bv_length]; with_reducible assumption) | (simp [cat, jbC, hj']; done) | (simp [cat, jbC, hj']; omega) | rfl)) rfl hS ?_
  refine q_does (d_litI S Try.underlying31 sz3 zv3 rfl (l := [_, _]) rfl rfl (by decide)) rfl ?_
  rintro _ w ⟨b8, rfl, S⟩
  have hS := S.pk [3] rfl
  refine ⟨hS, ?_⟩
  refine q_does (d_call Try.func58 nm58 rfl rfl (pen_nums _ _ _ _ _ _ _ _ _ (S.hr [1, 2] rfl) (S.rdRw 0 rfl rfl) (S.offRow 0 [1, 2] rfl rfl) (by first | omega | (simp only [List.length_append, List.length_cons, List.length_nil, bv_length, jbC, hj']; omega) | (simp [cat, jbC, hj']; omega)) (by decide))) rfl ?_
  rintro _ w ⟨rfl, k9, c9, T⟩
  have S := (S.call [1, 2] T rfl).pk [2, 0, 1, 5] rfl
  have hS := S.pk [3] rfl
  refine ⟨hS, ?_⟩
  refine q_does (d_call Try.func57 nm57 rfl rfl (pen_sum _ _ _ _ _ _ (S.hr [1, 2] rfl) (by first | with_reducible assumption | (rw [bv_length]; with_reducible assumption) | (rw [List.size_toArray, bv_length]; with_reducible assumption) | (simp [cat, jbC, hj']; done) | (simp [cat, jbC, hj']; omega) | rfl) (by first | omega | (simp only [List.length_append, List.length_cons, List.length_nil, bv_length, jbC, hj']; omega) | (simp [cat, jbC, hj']; omega)))) rfl ?_
  rintro _ w ⟨rfl, k12, c12, T⟩
  have S := (S.call [1, 2] T rfl).pk [2, 0, 1, 5] rfl
  have hS := S.pk [3] rfl
  refine ⟨hS, ?_⟩
  refine q_does (d_call Try.func25 nm25 rfl rfl (pen_text _ _ _ _ _ _ _ _ _ (S.hr [1, 2] rfl) (S.rdOld R rfl) (S.offOld [1, 2] R (by decide) Off.nil rfl) (by first | omega | (simp only [List.length_append, List.length_cons, List.length_nil, bv_length, jbC, hj']; omega) | (simp [cat, jbC, hj']; omega)))) rfl ?_
  rintro _ w ⟨rfl, k15, c15, T⟩
  have S := (S.call [1, 2] T rfl).pk [2, 0, 1, 5] rfl
  have hS := S.pk [3] rfl
  refine ⟨hS, ?_⟩
  refine q_does (d_call Try.func26 nm26 rfl rfl (pen_bytes _ _ _ _ _ (S.exact_ 1 rfl rfl) (S.rdRw 2 rfl rfl) (by first | omega | (simp only [List.length_append, List.length_cons, List.length_nil, bv_length, jbC, hj']; omega) | (simp [cat, jbC, hj']; omega)))) rfl ?_
  rintro _ w ⟨k16, c16, rfl, T⟩
  have S := S.merge T rfl
  have hS := S.pk [4] rfl
  refine ⟨hS, ?_⟩
  refine q_nil ?_
  refine p_val (e_assign (v := .slice _ _ _) rfl) rfl ?_
  refine p_nil (x_then (s_ret ?_))
  exact post1 (v := .slice _ _ _) Try.results67 rfl (by have e : [] ++ nums [j.c, j.s] ++ j.h ++ num s.length ++ s = jput j s := by { simp [jput] }; rw [← e]; exact ⟨_, _, rfl, S.pk [0] rfl⟩)
theorem jb_get (w0 : World) (A : Option Addr) (c : Nat) (l : List Nat) (R : Rd w0 1 A l.length (bv l)) (bR : Bytes l) (cR : l.length ≤ c) (nR : l.length ≤ 1099511000000) :
    Ret Try.prog 69 [.slice A l.length c] w0 fun v w' => ∃ k c2, v = .tuple #[.agg (cat (jbC (rJob l).1 (at_ k) (rJob l).2.1.length c2)).toArray, .int .i64 (rJob l).2.2] ∧ St w0 w' [] [k] [Rw 5 1 (rJob l).2.1.length c2 (bv (rJob l).2.1)] := by
  refine enter Try.func69 rfl Try.ntmps69 (Nat.le_of_ble_eq_true rfl) ?_
  have S := St.init w0
  refine s_seq (s_plain ?_)
  refine p_does (d_allocA S zs82) rfl ?_
  rintro _ w ⟨b2, rfl, S⟩
  refine p_val (e_assign (v := .int _ _) rfl) rfl ?_
  refine p_nil (x_then (s_seq (s_plain ?_)))
  refine p_val (e_move (v := .slice _ _ _) rfl) rfl ?_
  refine p_does (d_call Try.func52 nm52 rfl rfl (eye_look _ _ _ _)) rfl ?_
  rintro _ w ⟨b8, rfl, T⟩
  have S := S.merge T rfl
  refine p_val (e_assign (v := .pointer _) rfl) rfl ?_
  refine p_nil (x_then (s_seq (s_plain ?_)))
  refine p_val (e_move (v := .pointer _) rfl) rfl ?_
  refine p_does (d_call Try.func53 nm53 rfl rfl (eye_upto _ _ _ _ _ _ _ (S.hr [0] rfl) (S.rdOld R rfl) (S.offOld [0] R (by decide) Off.nil rfl) bR cR nR)) rfl ?_
  rintro _ w ⟨a10, e10, l10, A10, c10, q10, rfl, t10, T⟩
  have S := (S.call [0] T rfl).pk [0, 2] rfl
  have R10 := t10.rd _ R
  have bR10 := t10.by_ bR
  have cR10 := t10.cap
  have nR10 := t10.len nR
  refine p_val (e_move (v := .pointer _) rfl) rfl ?_
  refine p_does (d_call Try.func53 nm53 rfl rfl (eye_upto _ _ _ _ _ _ _ (S.hr [0] rfl) (S.rdOld R10 rfl) (S.offOld [0] R10 (by decide) Off.nil rfl) bR10 cR10 nR10)) rfl ?_
  rintro _ w ⟨a12, e12, l12, A12, c12, q12, rfl, t12, T⟩
  have S := (S.call [0] T rfl).pk [0, 2] rfl
  have R12 := t12.rd _ R10
  have bR12 := t12.by_ bR10
  have cR12 := t12.cap
  have nR12 := t12.len nR10
  refine p_val (e_move (v := .pointer _) rfl) rfl ?_
  refine p_does (d_call Try.func54 nm54 rfl rfl (eye_sum _ _ _ _ _ _ (S.hr [0] rfl) (S.rdOld R12 rfl) (S.offOld [0] R12 (by decide) Off.nil rfl) bR12 cR12 nR12)) rfl ?_
  rintro _ w ⟨s14, e14, l14, A14, c14, q14, hs14, rfl, t14, T⟩
  have S := (S.call [0] T rfl).pk [0, 2] rfl
  have R14 := t14.rd _ R12
  have bR14 := t14.by_ bR12
  have cR14 := t14.cap
  have nR14 := t14.len nR12
  have hs14' : s14.length = 32 := hs14
  refine p_val (e_buildS bt82 (Eq.trans (fill_cat (v := .int _ _) (l' := [[_]]) 0 1 rfl (rfl) (by first | with_reducible assumption | (rw [bv_length]; with_reducible assumption) | (rw [List.size_toArray, bv_length]; with_reducible assumption) | (simp [cat, length_zsum, jbC, zc82, Value.cells, hs14]; done) | (simp [cat, length_zsum, jbC, zc82, Value.cells, hs14]; omega) | rfl) (by first | with_reducible assumption | (rw [bv_length]; with_reducible assumption) | (rw [List.size_toArray, bv_length]; with_reducible assumption) | (simp [cat, length_zsum, jbC, zc82, Value.cells, hs14]; done) | (simp [cat, length_zsum, jbC, zc82, Value.cells, hs14]; omega) | rfl) (by first | with_reducible assumption | (rw [bv_length]; with_reducible assumption) | (rw [List.size_toArray, bv_length]; with_reducible assumption) | (simp [cat, length_zsum, jbC, zc82, Value.cells, hs14]; done) | (simp [cat, length_zsum, jbC, zc82, Value.cells, hs14]; omega) | rfl)) (Eq.trans (fill_cat (v := .int _ _) (l' := [[_]]) 1 1 rfl (rfl) (by first | with_reducible assumption | (rw [bv_length]; with_reducible assumption) | (rw [List.size_toArray, bv_length]; with_reducible assumption) | (simp [cat, length_zsum, jbC, zc82, Value.cells, hs14]; done) | (simp [cat, length_zsum, jbC, zc82, Value.cells, hs14]; omega) | rfl) (by first | with_reducible assumption | (rw [bv_length]; with_reducible assumption) | (rw [List.size_toArray, bv_length]; with_reducible assumption) | (simp [cat, length_zsum, jbC, zc82, Value.cells, hs14]; done) | (simp [cat, length_zsum, jbC, zc82, Value.cells, hs14]; omega) | rfl) (by first | with_reducible assumption | (rw [bv_length]; with_reducible assumption) | (rw [List.size_toArray, bv_length]; with_reducible assumption) | (simp [cat, length_zsum, jbC, zc82, Value.cells, hs14]; done) | (simp [cat, length_zsum, jbC, zc82, Value.cells, hs14]; omega) | rfl)) (Eq.trans (fill_cat (v := .agg _) (l' := [_]) 2 1 rfl ((List.append_nil _).symm) (by first | with_reducible assumption | (rw [bv_length]; with_reducible assumption) | (rw [List.size_toArray, bv_length]; with_reducible assumption) | (simp [cat, length_zsum, jbC, zc82, Value.cells, hs14]; done) | (simp [cat, length_zsum, jbC, zc82, Value.cells, hs14]; omega) | rfl) (by first | with_reducible assumption | (rw [bv_length]; with_reducible assumption) | (rw [List.size_toArray, bv_length]; with_reducible assumption) | (simp [cat, length_zsum, jbC, zc82, Value.cells, hs14]; done) | (simp [cat, length_zsum, jbC, zc82, Value.cells, hs14]; omega) | rfl) (by first | with_reducible assumption | (rw [bv_length]; with_reducible assumption) | (rw [List.size_toArray, bv_length]; with_reducible assumption) | (simp [cat, length_zsum, jbC, zc82, Value.cells, hs14]; done) | (simp [cat, length_zsum, jbC, zc82, Value.cells, hs14]; omega) | rfl)) rfl)))) rfl ?_
  refine p_does (d_allocA S zs82) rfl ?_
  rintro _ w ⟨b5, rfl, S⟩
  refine p_does (d_storeW S 0 rfl rfl (by first | exact bv_one _ | exact sv_one _ | exact iv_one _ | with_reducible assumption | (refine One.mem ?_; repeat (first | exact One.bv _ | exact One.sv _ | exact One.iv _ | exact One.nil | exact One.cat0 | refine One.cat1 ?_ ?_ | refine One.cons rfl ?_ | refine One.append ?_ ?_))) sz82 (by first | with_reducible assumption | (rw [bv_length]; with_reducible assumption) | (rw [List.size_toArray, bv_length]; with_reducible assumption) | (simp [cat, length_zsum, jbC, zc82, Value.cells, hs14]; done) | (simp [cat, length_zsum, jbC, zc82, Value.cells, hs14]; omega) | rfl) rfl rfl (by first | with_reducible assumption | (rw [bv_length]; with_reducible assumption) | (rw [List.size_toArray, bv_length]; with_reducible assumption) | (simp [cat, length_zsum, jbC, zc82, Value.cells, hs14]; done) | (simp [cat, length_zsum, jbC, zc82, Value.cells, hs14]; omega) | rfl)) rfl ?_
  intro _ w S
  refine p_nil (x_then (s_seq (s_plain ?_)))
  refine p_val (e_move (v := .pointer _) rfl) rfl ?_
  refine p_does (d_call Try.func59 nm59 rfl rfl (eye_text _ _ _ _ _ _ _ (S.hr [1] rfl) (S.rdOld R14 rfl) (S.offOld [1] R14 (by decide) Off.nil rfl) bR14 cR14 nR14)) rfl ?_
  rintro _ w ⟨k17, cc17, s17, e17, l17, A17, c17, q17, rfl, t17, T⟩
  have S := (S.call [1] T rfl).pk [0, 2, 1, 4] rfl
  have R17 := t17.rd _ R14
  have bR17 := t17.by_ bR14
  have cR17 := t17.cap
  have nR17 := t17.len nR14
  refine p_val (e_field rfl Try.underlying82 rfl sz47 (by decide)) rfl ?_
  refine p_does (d_storeF1 (v := .slice _ _ _) (off := 34) S 1 3 rfl rfl rfl sz47 rfl rfl rfl (by first | with_reducible assumption | (rw [bv_length]; with_reducible assumption) | (rw [List.size_toArray, bv_length]; with_reducible assumption) | (simp [cat, length_zsum, jbC, zc82, Value.cells, hs14]; done) | (simp [cat, length_zsum, jbC, zc82, Value.cells, hs14]; omega) | rfl)) rfl ?_
  intro _ w S
  refine p_nil (x_then (s_seq (s_seq (s_plain ?_))))
  refine p_val (e_move (v := .pointer _) rfl) rfl ?_
  refine p_does (d_call Try.func55 nm55 rfl rfl (eye_done _ _ _ _ _ _ (S.hr [2] rfl))) rfl ?_
  rintro _ w ⟨rfl, T⟩
  have S := (S.call [2] T rfl).pk [1, 2, 0, 4] rfl
  refine p_val (e_assign (v := .int _ _) rfl) rfl ?_
  refine p_nil (x_then (s_seq (s_plain ?_)))
  refine p_val (e_move (v := .int _ _) rfl) rfl ?_
  refine p_val (e_neq rfl rfl) rfl ?_
  refine p_nil (x_then ?_)
  refine s_cond rfl (fun hc22 => ?_) (fun hc22 => ?_)
  · have e0 : rJob l = (Jb.zero, [], rDone e17 l17) := by simp only [rJob, q10, q12, q14, q17, if_neg hc22]
    refine s_seq (s_plain ?_)
    refine p_val (e_buildS0 bt82) rfl ?_
    refine p_val (e_move (v := .int _ _) rfl) rfl ?_
    refine p_does (d_storeW S 3 rfl rfl (by first | exact bv_one _ | exact sv_one _ | exact iv_one _ | with_reducible assumption | (refine One.mem ?_; repeat (first | exact One.bv _ | exact One.sv _ | exact One.iv _ | exact One.nil | exact One.cat0 | refine One.cat1 ?_ ?_ | refine One.cons rfl ?_ | refine One.append ?_ ?_))) sz82 (by first | with_reducible assumption | (rw [bv_length]; with_reducible assumption) | (rw [List.size_toArray, bv_length]; with_reducible assumption) | (simp [cat, length_zsum, jbC, zc82, Value.cells]; done) | (simp [cat, length_zsum, jbC, zc82, Value.cells]; omega) | rfl) rfl rfl (by first | with_reducible assumption | (rw [bv_length]; with_reducible assumption) | (rw [List.size_toArray, bv_length]; with_reducible assumption) | (simp [cat, length_zsum, jbC, zc82, Value.cells]; done) | (simp [cat, length_zsum, jbC, zc82, Value.cells]; omega) | rfl)) rfl ?_
    intro _ w S
    refine p_val (e_assign (v := .int _ _) rfl) rfl ?_
    refine p_nil (x_then (s_ret (x_then_ret ?_)))
    exact postC1 (v := .int _ _) Try.results69 S 3 rfl rfl rfl rfl ag82 sz82 (by first | with_reducible assumption | (rw [bv_length]; with_reducible assumption) | (rw [List.size_toArray, bv_length]; with_reducible assumption) | (simp [cat, length_zsum, jbC, zc82, Value.cells]; done) | (simp [cat, length_zsum, jbC, zc82, Value.cells]; omega) | rfl) (by rw [e0]; exact ⟨none, 0, rfl, S.none_.addNil 5 1⟩)
  · have e0 : rJob l = (⟨a10, a12, s14⟩, s17, 0) := by simp only [rJob, q10, q12, q14, q17, if_pos (Classical.not_not.1 hc22)]
    refine s_skip (x_then (s_seq (s_plain ?_)))
    refine p_val (e_loadW 1 rfl ag82 sz82 S rfl rfl (by first | with_reducible assumption | (rw [bv_length]; with_reducible assumption) | (rw [List.size_toArray, bv_length]; with_reducible assumption) | (simp [cat, length_zsum, jbC, zc82, Value.cells, hs14]; done) | (simp [cat, length_zsum, jbC, zc82, Value.cells, hs14]; omega) | rfl)) rfl ?_
    refine p_does (d_storeW S 3 rfl rfl (by first | exact bv_one _ | exact sv_one _ | exact iv_one _ | with_reducible assumption | (refine One.mem ?_; repeat (first | exact One.bv _ | exact One.sv _ | exact One.iv _ | exact One.nil | exact One.cat0 | refine One.cat1 ?_ ?_ | refine One.cons rfl ?_ | refine One.append ?_ ?_))) sz82 (by first | with_reducible assumption | (rw [bv_length]; with_reducible assumption) | (rw [List.size_toArray, bv_length]; with_reducible assumption) | (simp [cat, length_zsum, jbC, zc82, Value.cells, hs14]; done) | (simp [cat, length_zsum, jbC, zc82, Value.cells, hs14]; omega) | rfl) rfl rfl (by first | with_reducible assumption | (rw [bv_length]; with_reducible assumption) | (rw [List.size_toArray, bv_length]; with_reducible assumption) | (simp [cat, length_zsum, jbC, zc82, Value.cells, hs14]; done) | (simp [cat, length_zsum, jbC, zc82, Value.cells, hs14]; omega) | rfl)) rfl ?_
    intro _ w S
    refine p_val (e_assign (v := .int _ _) rfl) rfl ?_
    refine p_nil (x_then (s_ret ?_))
    exact postC1 (v := .int _ _) Try.results69 S 3 rfl rfl rfl rfl ag82 sz82 (by first | with_reducible assumption | (rw [bv_length]; with_reducible assumption) | (rw [List.size_toArray, bv_length]; with_reducible assumption) | (simp [cat, length_zsum, jbC, zc82, Value.cells, hs14]; done) | (simp [cat, length_zsum, jbC, zc82, Value.cells, hs14]; omega) | rfl) (by rw [e0]; exact ⟨_, _, rfl, S.pk [0] rfl⟩)
end Go.Proofs.Ytcgcjklpilbndaa
