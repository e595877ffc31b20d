/- What writes bytes. It proves no statement by itself. -/
import Derived.Test.YtcgcjklpilbndaaOff
import Derived.Test.YtcgcjklpilbndaaCon2
set_option linter.unusedSimpArgs false
set_option linter.unusedVariables false
set_option maxRecDepth 100000
set_option maxHeartbeats 1000000
namespace Go.Proofs.Ytcgcjklpilbndaa
open Go Go.RowKit E
attribute [local irreducible] wpList seqH treeH
/-- a pen with bytes l: its block, its row -/
abbrev penE (k : Option Nat) (c : Nat) (l : List Nat) : Option Obj → Prop := Ex (cat [[.slice (at_ k) l.length c]]).toArray 56
abbrev penR (c : Nat) (l : List Nat) : Option Obj → Prop := Rw 5 1 l.length c (bv l)
theorem pen_new {w0 w : World} {ex : List Nat} {ks : List (Option Nat)} {ps : List (Option Obj → Prop)} {b : Nat} (S : St w0 w ex (some b :: ks) (Ex (cat zc56).toArray 56 :: ps)) :
    St w0 w ex (some b :: none :: ks) (penE none 0 [] :: penR 0 [] :: ps) := (S.addNil 5 1).swap
theorem pen_num (w0 : World) (hb : Nat) (k : Option Nat) (c : Nat) (l : List Nat) (a : Int) (S0 : St w0 w0 (exOf [some hb, k]) [some hb, k] [penE k c l, penR c l]) (hl : l.length ≤ 1099511627776) :
    Ret Try.prog 56 [.pointer (some ⟨hb, 0, none⟩), .int .i64 a] w0 fun v w' => v = .pointer (some ⟨hb, 0, none⟩) ∧ ∃ k' c', St w0 w' (exOf [some hb, k]) [some hb, k'] [penE k' c' (l ++ num a), penR c' (l ++ num a)] := by
  refine enter Try.func56 rfl Try.ntmps56 (Nat.le_of_ble_eq_true rfl) ?_
  have S := S0
  have hna := num_len a
  refine s_seq (s_plain ?_)
  refine p_val (e_assign (v := .pointer _) rfl) rfl ?_
  refine p_nil (x_then (s_seq (s_seq (s_plain ?_))))
  refine p_val (e_move (v := .pointer _) rfl) rfl ?_
  refine p_val (e_eqlP rfl rfl Try.underlying57) rfl ?_
  refine p_nil (x_then ?_)
  refine s_condb rfl (fun hc7 => ?_) (fun hc7 => ?_)
  · exact False.elim (by simp at hc7)
  · refine s_skip (x_then (s_seq (s_plain ?_)))
    refine p_val (e_move (v := .int _ _) rfl) rfl ?_
    refine p_val (e_max0 rfl rfl) rfl ?_
    refine p_val (e_convU64 rfl Try.underlying3 (by simp) Try.underlying130) rfl ?_
    refine p_val (e_assign (v := .int _ _) rfl) rfl ?_
    refine p_nil (x_then (s_seq (s_block ?_)))
    refine s_loopK (α := Nat) (ks := [some hb, k]) (ps := [Ex _ _, Rw _ _ _ _ _]) [(0, .pointer _)] ⟨rfl, trivial⟩ S (fun keep ks ps g f' w' => ∃ u Kk Ck m xs p, f' = upds u ((5, .int .u64 (g : Int)) :: keep) ∧ (m = l.length + p.length) ∧ (xs = bv (l ++ p)) ∧ (p ++ vnum g = num a) ∧ St w0 w' (exOf [some hb, k]) [some hb, Kk] [Ex (cat [[.slice (at_ Kk) m Ck]]).toArray 56, Rw 5 1 (m) Ck (xs)]) (fun g => g) (a.toNat % 18446744073709551616) (⟨_, _,  _,  _,  _,  [], upds_eq ⟨rfl, rfl, trivial⟩, by first | omega | rfl | with_reducible assumption | (simp; done) | (simp; omega), by simp, by unfold num; rfl, S⟩) ?_
    rintro g f w ⟨u, Kk, Ck, m, xs, p, rfl, rfl, rfl, hv, S⟩
    have hpl : p.length + (vnum g).length = (num a).length := by rw [← hv, List.length_append]
    refine s_seq (s_seq (s_plain ?_))
    refine p_val (e_move (v := .int _ _) rfl) rfl ?_
    refine p_val (e_geq rfl rfl) rfl ?_
    refine p_nil (x_then ?_)
    refine s_cond rfl (fun hc13 => ?_) (fun hc13 => ?_)
    · refine s_skip (x_then (s_block (s_seq (s_plain ?_))))
      refine p_val (e_move (v := .pointer _) rfl) rfl ?_
      refine p_val (e_move (v := .pointer _) rfl) rfl ?_
      refine p_val (e_nil rfl rfl) rfl ?_
      refine p_val (e_field rfl Try.underlying56 rfl sz47 (by decide)) rfl ?_
      refine p_val (e_loadF1 (i := 0) (off := 0) rfl ag47 S (j := 0) rfl rfl rfl (by first | with_reducible assumption | (simp [cat]; done) | (simp [cat]; omega) | rfl)) rfl ?_
      refine p_val (e_move (v := .int _ _) rfl) rfl ?_
      refine p_val (e_conv8 rfl Try.underlying130 (by simp) Try.underlying5) rfl ?_
      refine p_val (e_or8 (n := 128) rfl rfl (by omega) (by omega)) rfl ?_
      refine p_does (d_litB S Try.underlying47 sz5 zv5 rfl (l := [_]) rfl rfl (by decide)) rfl ?_
      rintro _ w ⟨b22, rfl, S⟩
      refine p_does (d_append S 2 rfl rfl Try.underlying47 el5 rfl rfl (S.rdRw 0 rfl rfl) (by first | exact bv_one _ | exact sv_one _ | exact iv_one _ | with_reducible assumption | (refine One.mem ?_; repeat (first | exact One.bv _ | exact One.sv _ | exact One.iv _ | exact One.nil | exact One.cat0 | refine One.cat1 ?_ ?_ | refine One.cons rfl ?_ | refine One.append ?_ ?_))) (by first | omega | (simp only [List.length_append, List.length_cons, List.length_nil, bv_length]; omega) | (simp [cat]; omega)) (by unfold maxLen; first | omega | (simp only [List.length_append, List.length_cons, List.length_nil, bv_length]; omega))) rfl ?_
      rintro _ w ⟨k23, c23, rfl, S⟩
      refine p_val (e_nil rfl rfl) rfl ?_
      refine p_val (e_field rfl Try.underlying56 rfl sz47 (by decide)) rfl ?_
      refine p_does (d_storeF1 (v := .slice _ _ _) (off := 0) S 1 0 rfl rfl rfl sz47 rfl rfl rfl (by first | with_reducible assumption | (simp [cat]; done) | (simp [cat]; omega) | rfl)) rfl ?_
      intro _ w S
      refine p_nil (x_then (s_plain ?_))
      refine p_val (e_move (v := .int _ _) rfl) rfl ?_
      refine p_val (e_shr64 7 rfl rfl (by decide)) rfl ?_
      refine p_val (e_assign (v := .int _ _) rfl) rfl ?_
      refine p_nil (x_in ?_)
      refine x_round (g >>> 7) _ rfl ⟨_, _,  _,  _,  _,  p ++ [(g % 256) ||| 128], upds_eq ⟨rfl, rfl, trivial⟩, by simp; omega, by simp [bv], by rw [← hv, vnum_big (v := g) (by omega), or128 (by omega), Nat.shiftRight_eq_div_pow, show g % 256 % 128 = g % 128 by omega]; simp, S.pk [1, 2] rfl⟩ (by rw [Nat.shiftRight_eq_div_pow]; omega)
    · refine s_exit (x_then_exit (x_then_exit (x_in_same (x_then (s_seq (s_plain ?_))))))
      refine p_val (e_move (v := .pointer _) rfl) rfl ?_
      refine p_val (e_move (v := .pointer _) rfl) rfl ?_
      refine p_val (e_nil rfl rfl) rfl ?_
      refine p_val (e_field rfl Try.underlying56 rfl sz47 (by decide)) rfl ?_
      refine p_val (e_loadF1 (i := 0) (off := 0) rfl ag47 S (j := 0) rfl rfl rfl (by first | with_reducible assumption | (simp [cat]; done) | (simp [cat]; omega) | rfl)) rfl ?_
      refine p_val (e_move (v := .int _ _) rfl) rfl ?_
      refine p_val (e_conv8 rfl Try.underlying130 (by simp) Try.underlying5) rfl ?_
      refine p_does (d_litB S Try.underlying47 sz5 zv5 rfl (l := [_]) rfl rfl (by decide)) rfl ?_
      rintro _ w ⟨b35, rfl, S⟩
      refine p_does (d_append S 2 rfl rfl Try.underlying47 el5 rfl rfl (S.rdRw 0 rfl rfl) (by first | exact bv_one _ | exact sv_one _ | exact iv_one _ | with_reducible assumption | (refine One.mem ?_; repeat (first | exact One.bv _ | exact One.sv _ | exact One.iv _ | exact One.nil | exact One.cat0 | refine One.cat1 ?_ ?_ | refine One.cons rfl ?_ | refine One.append ?_ ?_))) (by first | omega | (simp only [List.length_append, List.length_cons, List.length_nil, bv_length]; omega) | (simp [cat]; omega)) (by unfold maxLen; first | omega | (simp only [List.length_append, List.length_cons, List.length_nil, bv_length]; omega))) rfl ?_
      rintro _ w ⟨k36, c36, rfl, S⟩
      refine p_val (e_nil rfl rfl) rfl ?_
      refine p_val (e_field rfl Try.underlying56 rfl sz47 (by decide)) rfl ?_
      refine p_does (d_storeF1 (v := .slice _ _ _) (off := 0) S 1 0 rfl rfl rfl sz47 rfl rfl rfl (by first | with_reducible assumption | (simp [cat]; done) | (simp [cat]; omega) | rfl)) rfl ?_
      intro _ w S
      refine p_nil (x_then (s_seq (s_plain ?_)))
      refine p_val (e_move (v := .pointer _) rfl) rfl ?_
      refine p_val (e_assign (v := .pointer _) rfl) rfl ?_
      refine p_nil (x_then (s_ret ?_))
      exact post1 (v := .pointer _) Try.results56 rfl (⟨rfl, _, _, (S.pk [1, 2] rfl).pen (by rw [← hv, vnum_small (v := g) (by omega), show g % 256 = g by omega]; simp [bv])⟩)
theorem pen_nums (w0 : World) (hb : Nat) (k : Option Nat) (c : Nat) (l : List Nat) (xs : List Int) (A : Option Addr) (n c1 : Nat) (S0 : St w0 w0 (exOf [some hb, k]) [some hb, k] [penE k c l, penR c l]) (R : Rd w0 1 A n (iv xs)) (oR : Off A n (exOf [some hb, k])) (hl : l.length ≤ 1099511000000) (hn : n ≤ 1000) :
    Ret Try.prog 58 [.pointer (some ⟨hb, 0, none⟩), .slice A n c1] w0 fun v w' => v = .pointer (some ⟨hb, 0, none⟩) ∧ ∃ k' c', St w0 w' (exOf [some hb, k]) [some hb, k'] [penE k' c' (l ++ nums xs), penR c' (l ++ nums xs)] := by
  refine enter Try.func58 rfl Try.ntmps58 (Nat.le_of_ble_eq_true rfl) ?_
  have S := S0
  have hxl : xs.length = n := by simpa using R.1
  refine s_seq (s_plain ?_)
  refine p_val (e_assign (v := .pointer _) rfl) rfl ?_
  refine p_nil (x_then (s_seq (s_seq (s_plain ?_))))
  refine p_val (e_move (v := .slice _ _ _) rfl) rfl ?_
  refine p_val (e_len rfl Try.underlying31) rfl ?_
  refine p_val (e_move (v := .int _ _) rfl) rfl ?_
  refine p_nil (x_then (s_block ?_))
  refine s_loopK (α := Nat) (ks := [some hb, k]) (ps := [Ex _ _, Rw _ _ _ _ _]) [(0, .pointer _), (7, .slice _ _ _), (8, .int _ _)] ⟨rfl, rfl, rfl, trivial⟩ S (fun keep ks ps g f' w' => ∃ u Kk Ck, f' = upds u ((9, .int .i64 (g : Int)) :: keep) ∧ (g ≤ n) ∧ St w0 w' (exOf [some hb, k]) [some hb, Kk] [penE Kk Ck (l ++ nums (xs.take g)), Rw 5 1 ((l ++ nums (xs.take g)).length) Ck (bv (l ++ nums (xs.take g)))]) (fun g => n - g) (0) (⟨_, _, _, upds_eq ⟨rfl, rfl, rfl, rfl, trivial⟩, by omega, by simpa [nums] using S⟩) ?_
  rintro g f w ⟨u, Kk, Ck, rfl, hg, S⟩
  have hnl := nums_len (xs.take g)
  have htl : (xs.take g).length = g := by rw [List.length_take]; omega
  refine s_seq (s_plain ?_)
  refine p_val (e_lss rfl rfl) rfl ?_
  refine p_nil (x_then (s_seq ?_))
  refine s_cond rfl (fun hc10 => ?_) (fun hc10 => ?_)
  · refine s_skip (x_then (s_seq (s_block (s_seq (s_plain ?_)))))
    refine p_val (e_ixR (S.rdOff R oR) (by decide) rfl rfl Try.underlying31 sz3 (by omega)) rfl ?_
    refine p_val (e_loadRi rfl ag3 (S.rdOff R oR) (by omega)) rfl ?_
    refine p_val (e_assign (v := .int _ _) rfl) rfl ?_
    refine p_nil (x_then (s_plain ?_))
    refine p_val (e_move (v := .pointer _) rfl) rfl ?_
    refine p_val (e_move (v := .int _ _) rfl) rfl ?_
    refine p_does (d_call Try.func56 nm56 rfl rfl (pen_num _ _ _ _ _ _ (S.hr [0, 1] rfl) (by simp only [List.length_append]; omega))) rfl ?_
    rintro _ w ⟨rfl, k15, c15, T⟩
    have S := (S.call [0, 1] T rfl).pk [0, 1] rfl
    refine p_nil (x_in (x_then (s_plain ?_)))
    refine p_val (e_add64 rfl rfl (by omega)) rfl ?_
    refine p_val (e_move (v := .int _ _) rfl) rfl ?_
    refine p_nil ?_
    have e1 : l ++ nums (xs.take g) ++ num (xs.getD (g : Int).toNat 0) = l ++ nums (xs.take (g + 1)) := by rw [nums_take xs (show g < xs.length by omega), Int.toNat_natCast, List.append_assoc]
    rw [e1] at S
    refine x_round (g + 1) _ rfl ⟨_, _, _, upds_eq ⟨rfl, rfl, rfl, rfl, trivial⟩, by first | omega | rfl | with_reducible assumption | (simp; done) | (simp; omega), S⟩ (by omega)
  · refine s_exit (x_then_exit (x_then_exit (x_in_same (x_then (s_seq (s_plain ?_))))))
    refine p_val (e_move (v := .pointer _) rfl) rfl ?_
    refine p_val (e_assign (v := .pointer _) rfl) rfl ?_
    refine p_nil (x_then (s_ret ?_))
    exact post1 (v := .pointer _) Try.results58 rfl (⟨rfl, _, _, by obtain rfl : g = n := (by omega); rw [List.take_of_length_le (by omega)] at S; exact S⟩)
theorem pen_text (w0 : World) (hb : Nat) (k : Option Nat) (c : Nat) (l : List Nat) (s : List Nat) (A : Option Addr) (n c1 : Nat) (S0 : St w0 w0 (exOf [some hb, k]) [some hb, k] [penE k c l, penR c l]) (R : Rd w0 1 A n (bv s)) (oR : Off A n (exOf [some hb, k])) (hl : l.length + n ≤ 1099511000000) :
    Ret Try.prog 25 [.pointer (some ⟨hb, 0, none⟩), .slice A n c1] w0 fun v w' => v = .pointer (some ⟨hb, 0, none⟩) ∧ ∃ k' c', St w0 w' (exOf [some hb, k]) [some hb, k'] [penE k' c' (l ++ num s.length ++ s), penR c' (l ++ num s.length ++ s)] := by
  refine enter Try.func25 rfl Try.ntmps25 (Nat.le_of_ble_eq_true rfl) ?_
  have S := S0
  have hxl : s.length = n := by simpa using R.1
  subst hxl
  have hna := num_len s.length
  refine s_seq (s_plain ?_)
  refine p_val (e_assign (v := .pointer _) rfl) rfl ?_
  refine p_nil (x_then (s_seq (s_seq (s_plain ?_))))
  refine p_val (e_move (v := .pointer _) rfl) rfl ?_
  refine p_val (e_eqlP rfl rfl Try.underlying57) rfl ?_
  refine p_nil (x_then ?_)
  refine s_condb rfl (fun hc6 => ?_) (fun hc6 => ?_)
  · exact False.elim (by simp at hc6)
  · refine s_skip (x_then (s_seq (s_plain ?_)))
    refine p_val (e_move (v := .pointer _) rfl) rfl ?_
    refine p_val (e_move (v := .slice _ _ _) rfl) rfl ?_
    refine p_val (e_len rfl Try.underlying47) rfl ?_
    refine p_does (d_call Try.func56 nm56 rfl rfl (pen_num _ _ _ _ _ _ (S.hr [0, 1] rfl) (by first | omega | (simp only [List.length_append, List.length_cons, List.length_nil, bv_length]; omega) | (simp [cat]; omega)))) rfl ?_
    rintro _ w ⟨rfl, k11, c11, T⟩
    have S := (S.call [0, 1] T rfl).pk [0, 1] rfl
    refine p_nil (x_then (s_seq (s_plain ?_)))
    refine p_val (e_move (v := .pointer _) rfl) rfl ?_
    refine p_val (e_move (v := .pointer _) rfl) rfl ?_
    refine p_val (e_nil rfl rfl) rfl ?_
    refine p_val (e_field rfl Try.underlying56 rfl sz47 (by decide)) rfl ?_
    refine p_val (e_loadF1 (i := 0) (off := 0) rfl ag47 S (j := 0) rfl rfl rfl (by first | with_reducible assumption | (simp [cat]; done) | (simp [cat]; omega) | rfl)) rfl ?_
    refine p_val (e_move (v := .slice _ _ _) rfl) rfl ?_
    refine p_does (d_append S 1 rfl rfl Try.underlying47 el5 rfl rfl (S.rdOff R oR) (by first | exact bv_one _ | exact sv_one _ | exact iv_one _ | with_reducible assumption | (refine One.mem ?_; repeat (first | exact One.bv _ | exact One.sv _ | exact One.iv _ | exact One.nil | exact One.cat0 | refine One.cat1 ?_ ?_ | refine One.cons rfl ?_ | refine One.append ?_ ?_))) (by first | omega | (simp only [List.length_append, List.length_cons, List.length_nil, bv_length]; omega) | (simp [cat]; omega)) (by unfold maxLen; first | omega | (simp only [List.length_append, List.length_cons, List.length_nil, bv_length]; omega))) rfl ?_
    rintro _ w ⟨k18, c18, rfl, S⟩
    refine p_val (e_nil rfl rfl) rfl ?_
    refine p_val (e_field rfl Try.underlying56 rfl sz47 (by decide)) rfl ?_
    refine p_does (d_storeF1 (v := .slice _ _ _) (off := 0) S 0 0 rfl rfl rfl sz47 rfl rfl rfl (by first | with_reducible assumption | (simp [cat]; done) | (simp [cat]; omega) | rfl)) rfl ?_
    intro _ w S
    refine p_nil (x_then (s_seq (s_plain ?_)))
    refine p_val (e_move (v := .pointer _) rfl) rfl ?_
    refine p_val (e_assign (v := .pointer _) rfl) rfl ?_
    refine p_nil (x_then (s_ret ?_))
    exact post1 (v := .pointer _) Try.results25 rfl (⟨rfl, _, _, (S.pk [0, 1] rfl).pen (by simp [bv])⟩)
theorem pen_sum (w0 : World) (hb : Nat) (k : Option Nat) (c : Nat) (l : List Nat) (s : List Nat) (S0 : St w0 w0 (exOf [some hb, k]) [some hb, k] [penE k c l, penR c l]) (hs : s.length = 32) (hl : l.length ≤ 1099511000000) :
    Ret Try.prog 57 [.pointer (some ⟨hb, 0, none⟩), .agg (bv s).toArray] w0 fun v w' => v = .pointer (some ⟨hb, 0, none⟩) ∧ ∃ k' c', St w0 w' (exOf [some hb, k]) [some hb, k'] [penE k' c' (l ++ s), penR c' (l ++ s)] := by
  refine enter Try.func57 rfl Try.ntmps57 (Nat.le_of_ble_eq_true rfl) ?_
  have S := S0
  refine s_seq (s_plain ?_)
  refine p_does (d_boxA S rfl) rfl ?_
  rintro _ w ⟨b3, rfl, S⟩
  refine p_val (e_assign (v := .pointer _) rfl) rfl ?_
  refine p_nil (x_then (s_seq (s_seq (s_plain ?_))))
  refine p_val (e_move (v := .pointer _) rfl) rfl ?_
  refine p_val (e_neqP rfl rfl Try.underlying57) rfl ?_
  refine p_nil (x_then ?_)
  refine s_condb rfl (fun hc6 => ?_) (fun hc6 => ?_)
  · refine s_drawK (ks := [some b3, some hb]) (ps := [Ex _ _, Ex _ _]) (S.pk [0, 1] rfl) [(true, 0), (true, 1), (true, 2), (true, 3), (true, 4), (true, 5), (false, 6), (true, 7)] [8] [8, 9] mixed (by kernel_rfl) (by repeat (first | exact Calm.post _ _ _ | refine Calm.then ?_ _ | refine Calm.inB ?_ _)) (fun hS => ?_)
    have S := S.drew
    refine q_val (fun w hS => e_move (v := .pointer _) rfl) rfl hS ?_
    refine q_val (fun w hS => e_move (v := .pointer _) rfl) rfl hS ?_
    refine q_val (fun w hS => e_nil rfl rfl) rfl hS ?_
    refine q_val (fun w hS => e_field rfl Try.underlying56 rfl sz47 (by decide)) rfl hS ?_
    refine q_val (fun w hS => e_loadF1 (i := 0) (off := 0) rfl ag47 hS (j := 1) rfl rfl rfl (by first | with_reducible assumption | (simp [cat, hs]; done) | (simp [cat, hs]; omega) | rfl)) rfl hS ?_
    refine q_val (fun w hS => e_sl_arr rfl Try.underlying44 sz5) rfl hS ?_
    refine q_does (d_append S 2 rfl rfl Try.underlying47 el5 rfl rfl (S.rdBytes 0 rfl rfl (by first | with_reducible assumption | (simp [cat, hs]; done) | (simp [cat, hs]; omega) | rfl)) (by first | exact bv_one _ | exact sv_one _ | exact iv_one _ | with_reducible assumption | (refine One.mem ?_; repeat (first | exact One.bv _ | exact One.sv _ | exact One.iv _ | exact One.nil | exact One.cat0 | refine One.cat1 ?_ ?_ | refine One.cons rfl ?_ | refine One.append ?_ ?_))) (by first | omega | (simp only [List.length_append, List.length_cons, List.length_nil, bv_length, hs]; omega) | (simp [cat, hs]; omega)) (by unfold maxLen; first | omega | (simp only [List.length_append, List.length_cons, List.length_nil, bv_length, hs]; omega))) rfl ?_
    rintro _ w ⟨k13, c13, rfl, S⟩
    have hS := S.pk [0, 1] rfl
    refine ⟨hS, ?_⟩
    refine q_val (fun w hS => e_nil rfl rfl) rfl hS ?_
    refine q_nil ?_
    refine p_val (e_field rfl Try.underlying56 rfl sz47 (by decide)) rfl ?_
    refine p_does (d_storeF1 (v := .slice _ _ _) (off := 0) S 1 0 rfl rfl rfl sz47 rfl rfl rfl (by first | with_reducible assumption | (simp [cat, hs]; done) | (simp [cat, hs]; omega) | rfl)) rfl ?_
    intro _ w S
    refine p_nil (x_then (s_seq (s_plain ?_)))
    refine p_val (e_move (v := .pointer _) rfl) rfl ?_
    refine p_val (e_assign (v := .pointer _) rfl) rfl ?_
    refine p_nil (x_then (s_ret ?_))
    exact post1 (v := .pointer _) Try.results57 rfl (⟨rfl, _, _, (S.pk [1, 2] rfl).pen (by simp [bv])⟩)
  · exact False.elim (by simp at hc6)
theorem pen_bytes (w0 : World) (hb : Nat) (k : Option Nat) (c : Nat) (l : List Nat) (hh : w0.heap[hb]? = some (.cells (cat [[.slice (at_ k) l.length c]]).toArray 56 (0, 0))) (R : Rd w0 1 (at_ k) l.length (bv l)) (hl : l.length ≤ 1099511000000) :
    Ret Try.prog 26 [.pointer (some ⟨hb, 0, none⟩)] w0 fun v w' => ∃ k2 c2, v = .slice (at_ k2) l.length c2 ∧ St w0 w' [] [k2] [Rw 5 1 l.length c2 (bv l)] := by
  refine enter Try.func26 rfl Try.ntmps26 (Nat.le_of_ble_eq_true rfl) ?_
  have S := St.init w0
  refine s_seq (s_plain ?_)
  refine p_val (e_assign (v := .slice _ _ _) rfl) rfl ?_
  refine p_nil (x_then (s_seq (s_seq (s_plain ?_))))
  refine p_val (e_move (v := .pointer _) rfl) rfl ?_
  refine p_val (e_eqlP rfl rfl Try.underlying57) rfl ?_
  refine p_nil (x_then ?_)
  refine s_condb rfl (fun hc4 => ?_) (fun hc4 => ?_)
  · exact False.elim (by simp at hc4)
  · refine s_skip (x_then (s_seq (s_plain ?_)))
    refine p_val (e_move (v := .pointer _) rfl) rfl ?_
    refine p_val (e_nil rfl rfl) rfl ?_
    refine p_val (e_field rfl Try.underlying56 rfl sz47 (by decide)) rfl ?_
    refine p_val (e_load rfl ag47 (S.oldCell hh (by simp) 0)) rfl ?_
    have S := S.addNil 5 1
    refine p_does (d_append S 0 rfl rfl Try.underlying47 el5 rfl rfl (S.rdOld R rfl) (by first | exact bv_one _ | exact sv_one _ | exact iv_one _ | with_reducible assumption | (refine One.mem ?_; repeat (first | exact One.bv _ | exact One.sv _ | exact One.iv _ | exact One.nil | exact One.cat0 | refine One.cat1 ?_ ?_ | refine One.cons rfl ?_ | refine One.append ?_ ?_))) (by omega) (by unfold maxLen; first | omega | (simp only [List.length_append, List.length_cons, List.length_nil, bv_length]; omega))) rfl ?_
    rintro _ w ⟨k9, c9, rfl, S⟩
    refine p_val (e_assign (v := .slice _ _ _) rfl) rfl ?_
    refine p_nil (x_then (s_ret ?_))
    exact post1 (v := .slice _ _ _) Try.results26 rfl (by have S := S.pk [0] rfl; rw [Nat.zero_add] at *; exact ⟨_, _, rfl, S⟩)
end Go.Proofs.Ytcgcjklpilbndaa
