/- Own texts, one behind the other: walks and laws that the statement needs. They prove no statement by themselves. -/
import Derived.Test.YtcgcjklpilbndaaZP28b5
import Derived.Test.YtcgcjklpilbndaaZP28b2
/- Chapter 28's laws. It proves no statement by itself. -/
set_option linter.unusedSimpArgs false
set_option linter.unusedVariables false
set_option maxRecDepth 100000
set_option maxHeartbeats 4000000
namespace Go.Proofs.Ytcgcjklpilbndaa
open Go Go.RowKit E
attribute [local irreducible] wpList seqH treeH
def aM : Msg := ⟨3, 1, 2, 0, 0, 0, zsum, zsum, 0, zsum, 5, zsum, Jb.zero, Rcp.zero⟩
def aN : Msg := ⟨3, 1, 1, 0, 0, 0, zsum, zsum, 0, zsum, 0, zsum, Jb.zero, Rcp.zero⟩
theorem aM_ok : aM.ok := ⟨length_zsum, length_zsum, length_zsum, length_zsum, length_zsum, length_zsum, length_zsum⟩
theorem aN_ok : aN.ok := ⟨length_zsum, length_zsum, length_zsum, length_zsum, length_zsum, length_zsum, length_zsum⟩
theorem zsum_by : Bytes zsum := fun x h => by rw [(List.mem_replicate.1 h).2]; decide
theorem aM_byt : aM.byt := ⟨zsum_by, zsum_by, zsum_by, zsum_by, zsum_by, ⟨zsum_by, zsum_by⟩⟩
theorem aM_right : aM.right := by decide
theorem aN_right : ¬ aN.right := by decide
theorem aM_body : rBody (mz 3 1 2) 0 (tbody aM [] []) = ⟨aM, [], [], 0, 0, []⟩ := by
  have e : tbody aM [] [] = num 5 ++ (zsum ++ []) := by
    unfold tbody
    rw [if_neg (show ¬ aM.k = 1 by decide), if_neg (show ¬ aM.k = 2 by decide), if_pos (show aM.k = 3 by decide), List.append_nil]
    rfl
  rw [e]
  unfold rBody
  rw [if_neg (show ¬ (mz 3 1 2).k = 1 from by show ¬ (3 : Int) = 1; decide), if_neg (show ¬ (mz 3 1 2).k = 2 from by show ¬ (3 : Int) = 2; decide), if_pos (show (mz 3 1 2).k = 3 from rfl)]
  simp only [rUpto_num (a := 5) (m := 1048576) (by decide) (by decide), rSum_sum length_zsum]
  rfl
theorem aM_get {l : List Nat} (h : l = tput aM [] []) : rMsg l = ⟨aM, [], [], 0⟩ := by
  obtain ⟨f1, f2, f3⟩ := tk_front (b := []) (s := []) aM_right
  rw [h]
  have k1 : aM.k = 3 := rfl
  have k2 : aM.f = 1 := rfl
  have k3 : aM.t = 2 := rfl
  unfold rMsg
  simp only [f1, f2, f3]
  rw [k1, k2, k3, aM_body]
  simp only [rDone_nil]
  rw [if_neg (by decide), if_neg (by decide), if_neg (fun h => h aM_right)]
theorem l28awake (w0 : World) :
    Ret Try.prog 43 [] w0 fun v w' => v = .bool true ∧ Below w0.heap.size w0 w' := by
  refine enter Try.func43 rfl Try.ntmps43 (Nat.le_of_ble_eq_true rfl) ?_
  have S := St.init w0
  refine s_seq (s_plain ?_)
  refine p_val (e_assign (v := .bool _) rfl) rfl ?_
  refine p_nil (x_then (s_seq (s_plain ?_)))
  refine p_val (e_buildS bt84 (Eq.trans (fill_cat (v := .int _ _) (l' := [[_]]) 0 1 rfl (rfl) (by first | with_reducible assumption | (rw [bv_length]; with_reducible assumption) | (rw [List.size_toArray, bv_length]; with_reducible assumption) | (simp [cat, length_zsum, zc84]; done) | (simp [cat, length_zsum, zc84]; omega) | rfl) (by first | with_reducible assumption | (rw [bv_length]; with_reducible assumption) | (rw [List.size_toArray, bv_length]; with_reducible assumption) | (simp [cat, length_zsum, zc84]; done) | (simp [cat, length_zsum, zc84]; omega) | rfl) (by first | with_reducible assumption | (rw [bv_length]; with_reducible assumption) | (rw [List.size_toArray, bv_length]; with_reducible assumption) | (simp [cat, length_zsum, zc84]; done) | (simp [cat, length_zsum, zc84]; omega) | rfl)) (Eq.trans (fill_cat (v := .int _ _) (l' := [[_]]) 1 1 rfl (rfl) (by first | with_reducible assumption | (rw [bv_length]; with_reducible assumption) | (rw [List.size_toArray, bv_length]; with_reducible assumption) | (simp [cat, length_zsum, zc84]; done) | (simp [cat, length_zsum, zc84]; omega) | rfl) (by first | with_reducible assumption | (rw [bv_length]; with_reducible assumption) | (rw [List.size_toArray, bv_length]; with_reducible assumption) | (simp [cat, length_zsum, zc84]; done) | (simp [cat, length_zsum, zc84]; omega) | rfl) (by first | with_reducible assumption | (rw [bv_length]; with_reducible assumption) | (rw [List.size_toArray, bv_length]; with_reducible assumption) | (simp [cat, length_zsum, zc84]; done) | (simp [cat, length_zsum, zc84]; omega) | rfl)) (Eq.trans (fill_cat (v := .int _ _) (l' := [[_]]) 2 1 rfl (rfl) (by first | with_reducible assumption | (rw [bv_length]; with_reducible assumption) | (rw [List.size_toArray, bv_length]; with_reducible assumption) | (simp [cat, length_zsum, zc84]; done) | (simp [cat, length_zsum, zc84]; omega) | rfl) (by first | with_reducible assumption | (rw [bv_length]; with_reducible assumption) | (rw [List.size_toArray, bv_length]; with_reducible assumption) | (simp [cat, length_zsum, zc84]; done) | (simp [cat, length_zsum, zc84]; omega) | rfl) (by first | with_reducible assumption | (rw [bv_length]; with_reducible assumption) | (rw [List.size_toArray, bv_length]; with_reducible assumption) | (simp [cat, length_zsum, zc84]; done) | (simp [cat, length_zsum, zc84]; omega) | rfl)) (Eq.trans (fill_cat (v := .int _ _) (l' := [[_]]) 10 1 rfl (rfl) (by first | with_reducible assumption | (rw [bv_length]; with_reducible assumption) | (rw [List.size_toArray, bv_length]; with_reducible assumption) | (simp [cat, length_zsum, zc84]; done) | (simp [cat, length_zsum, zc84]; omega) | rfl) (by first | with_reducible assumption | (rw [bv_length]; with_reducible assumption) | (rw [List.size_toArray, bv_length]; with_reducible assumption) | (simp [cat, length_zsum, zc84]; done) | (simp [cat, length_zsum, zc84]; omega) | rfl) (by first | with_reducible assumption | (rw [bv_length]; with_reducible assumption) | (rw [List.size_toArray, bv_length]; with_reducible assumption) | (simp [cat, length_zsum, zc84]; done) | (simp [cat, length_zsum, zc84]; omega) | rfl)) rfl))))) rfl ?_
  refine p_does (d_allocA S zs84) rfl ?_
  rintro _ w ⟨b1, rfl, S⟩
  refine p_does (d_storeW S 0 rfl rfl (by first | exact bv_one _ | exact sv_one _ | exact iv_one _ | with_reducible assumption | (refine One.mem ?_; repeat (first | exact One.bv _ | exact One.sv _ | exact One.iv _ | exact One.nil | exact One.cat0 | refine One.cat1 ?_ ?_ | refine One.cons rfl ?_ | refine One.append ?_ ?_))) sz84 (by first | with_reducible assumption | (rw [bv_length]; with_reducible assumption) | (rw [List.size_toArray, bv_length]; with_reducible assumption) | (simp [cat, length_zsum, zc84]; done) | (simp [cat, length_zsum, zc84]; omega) | rfl) rfl rfl (by first | with_reducible assumption | (rw [bv_length]; with_reducible assumption) | (rw [List.size_toArray, bv_length]; with_reducible assumption) | (simp [cat, length_zsum, zc84]; done) | (simp [cat, length_zsum, zc84]; omega) | rfl)) rfl ?_
  intro _ w S
  refine p_nil (x_then (s_seq (s_plain ?_)))
  refine p_val (e_loadW 0 rfl ag84 sz84 S rfl rfl (by first | with_reducible assumption | (rw [bv_length]; with_reducible assumption) | (rw [List.size_toArray, bv_length]; with_reducible assumption) | (simp [cat, length_zsum, zc84]; done) | (simp [cat, length_zsum, zc84]; omega) | rfl)) rfl ?_
  refine p_does (d_call Try.func44 nm44 rfl rfl (tk_put _ aM none 0 [] none 0 [] aM_ok (Rd.nil _ _ _) (Rd.nil _ _ _) (by decide) (by decide))) rfl ?_
  rintro _ w ⟨k9, c9, o9, e9, rfl, hy9, hn9, T⟩
  have S := S.merge T rfl
  obtain ⟨ho, rfl⟩ := hy9 aM_right
  have hob : Bytes o9 := by rw [ho]; exact tput_by aM_byt (fun x h => by cases h) (fun x h => by cases h)
  have hol : o9.length ≤ 300 := by rw [ho]; exact tput_len aM_ok
  have e0 := aM_get ho
  clear ho
  have hox := tk_ok o9
  refine p_val (e_move (v := .tuple _) rfl) rfl ?_
  refine p_val (e_extract rfl rfl) rfl ?_
  refine p_val (e_extract rfl rfl) rfl ?_
  refine p_val (e_assign (v := .slice _ _ _) rfl) rfl ?_
  refine p_val (e_assign (v := .int _ _) rfl) rfl ?_
  refine p_nil (x_then (s_seq (s_plain ?_)))
  refine p_val (e_move (v := .slice _ _ _) rfl) rfl ?_
  refine p_does (d_call Try.func47 nm47 rfl rfl (tk_get _ _ _ _ (S.rdRw 0 rfl rfl) (hob) (S.capRw 0 rfl rfl) (by first | omega | (simp only [List.length_append, List.length_cons, List.length_nil, bv_length, length_zsum, zc84]; omega) | (simp [cat, length_zsum, zc84]; omega)))) rfl ?_
  rintro _ w ⟨k14, c14, j14, g14, rfl, T⟩
  have S := S.merge T rfl
  refine p_val (e_move (v := .tuple _) rfl) rfl ?_
  refine p_val (e_extract rfl rfl) rfl ?_
  refine p_val (e_extract rfl rfl) rfl ?_
  refine p_does (d_allocA S zs84) rfl ?_
  rintro _ w ⟨b4, rfl, S⟩
  refine p_does (d_storeW S 0 rfl rfl (by first | exact bv_one _ | exact sv_one _ | exact iv_one _ | with_reducible assumption | (refine One.mem ?_; repeat (first | exact One.bv _ | exact One.sv _ | exact One.iv _ | exact One.nil | exact One.cat0 | refine One.cat1 ?_ ?_ | refine One.cons rfl ?_ | refine One.append ?_ ?_))) sz84 (by first | with_reducible assumption | (rw [bv_length]; with_reducible assumption) | (rw [List.size_toArray, bv_length]; with_reducible assumption) | (simp [cat, length_zsum, zc84, msgC, hox.h0, hox.h1, hox.go, hox.sec, hox.j, hox.rh, hox.rb]; done) | (simp [cat, length_zsum, zc84, msgC, hox.h0, hox.h1, hox.go, hox.sec, hox.j, hox.rh, hox.rb]; omega) | rfl) rfl rfl (by first | with_reducible assumption | (rw [bv_length]; with_reducible assumption) | (rw [List.size_toArray, bv_length]; with_reducible assumption) | (simp [cat, length_zsum, zc84, msgC, hox.h0, hox.h1, hox.go, hox.sec, hox.j, hox.rh, hox.rb]; done) | (simp [cat, length_zsum, zc84, msgC, hox.h0, hox.h1, hox.go, hox.sec, hox.j, hox.rh, hox.rb]; omega) | rfl)) rfl ?_
  intro _ w S
  refine p_val (e_assign (v := .int _ _) rfl) rfl ?_
  refine p_nil (x_then (s_seq ?_))
  refine s_cutK (ks := [some b4, k14, j14, k9, some b1]) (ps := [Ex _ _, Rw _ _ _ _ _, Rw _ _ _ _ _, Rw _ _ _ _ _, Ex _ _]) [] trivial S (fun keep ks ps f' w' => ∃ u bb, f' = upds u ((0, .bool bb) :: keep) ∧ (bb = true ↔ True) ∧ St w0 w' [] ks ps) ?_ ?_
  · refine s_plain ?_
    refine p_val (e_buildS bt84 (Eq.trans (fill_cat (v := .int _ _) (l' := [[_]]) 0 1 rfl (rfl) (by first | with_reducible assumption | (rw [bv_length]; with_reducible assumption) | (rw [List.size_toArray, bv_length]; with_reducible assumption) | (simp [cat, length_zsum, zc84]; done) | (simp [cat, length_zsum, zc84]; omega) | rfl) (by first | with_reducible assumption | (rw [bv_length]; with_reducible assumption) | (rw [List.size_toArray, bv_length]; with_reducible assumption) | (simp [cat, length_zsum, zc84]; done) | (simp [cat, length_zsum, zc84]; omega) | rfl) (by first | with_reducible assumption | (rw [bv_length]; with_reducible assumption) | (rw [List.size_toArray, bv_length]; with_reducible assumption) | (simp [cat, length_zsum, zc84]; done) | (simp [cat, length_zsum, zc84]; omega) | rfl)) (Eq.trans (fill_cat (v := .int _ _) (l' := [[_]]) 1 1 rfl (rfl) (by first | with_reducible assumption | (rw [bv_length]; with_reducible assumption) | (rw [List.size_toArray, bv_length]; with_reducible assumption) | (simp [cat, length_zsum, zc84]; done) | (simp [cat, length_zsum, zc84]; omega) | rfl) (by first | with_reducible assumption | (rw [bv_length]; with_reducible assumption) | (rw [List.size_toArray, bv_length]; with_reducible assumption) | (simp [cat, length_zsum, zc84]; done) | (simp [cat, length_zsum, zc84]; omega) | rfl) (by first | with_reducible assumption | (rw [bv_length]; with_reducible assumption) | (rw [List.size_toArray, bv_length]; with_reducible assumption) | (simp [cat, length_zsum, zc84]; done) | (simp [cat, length_zsum, zc84]; omega) | rfl)) (Eq.trans (fill_cat (v := .int _ _) (l' := [[_]]) 2 1 rfl (rfl) (by first | with_reducible assumption | (rw [bv_length]; with_reducible assumption) | (rw [List.size_toArray, bv_length]; with_reducible assumption) | (simp [cat, length_zsum, zc84]; done) | (simp [cat, length_zsum, zc84]; omega) | rfl) (by first | with_reducible assumption | (rw [bv_length]; with_reducible assumption) | (rw [List.size_toArray, bv_length]; with_reducible assumption) | (simp [cat, length_zsum, zc84]; done) | (simp [cat, length_zsum, zc84]; omega) | rfl) (by first | with_reducible assumption | (rw [bv_length]; with_reducible assumption) | (rw [List.size_toArray, bv_length]; with_reducible assumption) | (simp [cat, length_zsum, zc84]; done) | (simp [cat, length_zsum, zc84]; omega) | rfl)) rfl)))) rfl ?_
    refine p_does (d_call Try.func45 nm45 rfl rfl (tk_right _ aN none 0 0 none 0 0 aN_ok)) rfl ?_
    rintro _ w ⟨rfl, hB⟩
    have S := S.below hB
    rcases Classical.em (aN.right) with hg18 | hg18
    · exact False.elim (aN_right hg18)
    · rw [decide_eq_false hg18]
      refine p_val (e_not rfl) rfl ?_
      refine p_val (e_move (v := .bool _) rfl) rfl ?_
      refine pg_val rfl rfl rfl rfl rfl (e_move (v := .int _ _) rfl) ?_
      refine pg_valB rfl rfl rfl rfl rfl (e_eql rfl rfl) (fun hg22 => ?_) (fun hg22 => ?_)
      · refine p_val (e_pick_t rfl rfl) rfl ?_
        refine p_val (e_move (v := .bool _) rfl) rfl ?_
        refine pg_val rfl rfl rfl rfl rfl (e_move (v := .int _ _) rfl) ?_
        refine pg_valB rfl rfl rfl rfl rfl (e_eql rfl rfl) (fun hg26 => ?_) (fun hg26 => ?_)
        · refine p_val (e_pick_t rfl rfl) rfl ?_
          refine p_val (e_move (v := .bool _) rfl) rfl ?_
          refine pg_val rfl rfl rfl rfl rfl (e_field rfl Try.underlying84 rfl sz3 (by decide)) ?_
          refine pg_val rfl rfl rfl rfl rfl (e_loadF1 (i := 10) (off := 103) rfl ag3 S (j := 0) rfl rfl rfl (by first | with_reducible assumption | (rw [bv_length]; with_reducible assumption) | (rw [List.size_toArray, bv_length]; with_reducible assumption) | (simp [cat, length_zsum, zc84, msgC, hox.h0, hox.h1, hox.go, hox.sec, hox.j, hox.rh, hox.rb]; done) | (simp [cat, length_zsum, zc84, msgC, hox.h0, hox.h1, hox.go, hox.sec, hox.j, hox.rh, hox.rb]; omega) | rfl)) ?_
          refine pg_valB rfl rfl rfl rfl rfl (e_eql rfl rfl) (fun hg31 => ?_) (fun hg31 => ?_)
          · refine p_val (e_pick_t rfl rfl) rfl ?_
            refine p_val (e_move (v := .bool _) rfl) rfl ?_
            refine pg_val rfl rfl rfl rfl rfl (e_field rfl Try.underlying84 rfl sz3 (by decide)) ?_
            refine pg_val rfl rfl rfl rfl rfl (e_loadF1 (i := 0) (off := 0) rfl ag3 S (j := 0) rfl rfl rfl (by first | with_reducible assumption | (rw [bv_length]; with_reducible assumption) | (rw [List.size_toArray, bv_length]; with_reducible assumption) | (simp [cat, length_zsum, zc84]; done) | (simp [cat, length_zsum, zc84]; omega) | rfl)) ?_
            refine pg_val rfl rfl rfl rfl rfl (e_eql rfl rfl) ?_
            refine p_val (e_pick_t rfl rfl) rfl ?_
            refine p_val (e_move (v := .bool _) rfl) rfl ?_
            refine p_val (e_pickB (p := true) (q := false) rfl rfl rfl) rfl ?_
            refine p_val (e_assign (v := .bool _) rfl) rfl ?_
            exact p_nil (x_then ⟨_, rfl, _, _, upds_eq ⟨rfl, trivial⟩, by simp [e0, aM], S⟩)
          · exact False.elim (hg31 (by rw [e0]; rfl))
        · exact False.elim (hg26 (by rw [e0]))
      · exact False.elim (hg22 rfl)
  · rintro f w ⟨u, b0, rfl, hb0, S⟩
    refine x_then (s_ret ?_)
    exact post1 (v := .bool _) Try.results43 rfl (by rw [hb0.2 trivial]; exact ⟨rfl, S.to_below⟩)
theorem tputs_calls (w0 : World) (m : Msg) (A1 : Option Addr) (x1 : Nat) (b : List Nat) (A2 : Option Addr) (x2 : Nat) (s : List Nat) (hm : m.ok) (hby : m.byt) (RB : Rd w0 1 A1 b.length (bv b)) (RS : Rd w0 1 A2 s.length (bv s)) (hbb : Bytes b) (hbs : Bytes s) :
    Ret Try.prog 10 [.agg (cat (msgC m A1 b.length x1 A2 s.length x2)).toArray] w0 fun v w' => v = .bool true ∧ Below w0.heap.size w0 w' := by
  refine enter Try.func10 rfl Try.ntmps10 (Nat.le_of_ble_eq_true rfl) ?_
  have S := St.init w0
  refine s_seq (s_plain ?_)
  refine p_does (d_boxA S rfl) rfl ?_
  rintro _ w ⟨b1, rfl, S⟩
  refine p_val (e_assign (v := .bool _) rfl) rfl ?_
  refine p_nil (x_then (s_seq (s_seq ?_)))
  refine s_cutK (ks := [some b1]) (ps := [Ex _ _]) [(1, .pointer _)] ⟨rfl, trivial⟩ S (fun keep ks ps f' w' => ∃ u bb, f' = upds u ((18, .bool bb) :: keep) ∧ (bb = true ↔ (1000 < (b.length : Int) ∨ 6000 < (s.length : Int))) ∧ St w0 w' [] ks ps) ?_ ?_
  · refine s_plain ?_
    refine p_val (e_field rfl Try.underlying84 rfl sz82 (by decide)) rfl ?_
    refine p_val (e_field rfl Try.underlying82 rfl sz47 (by decide)) rfl ?_
    refine p_val (e_loadF1 (i := 15) (off := 170) rfl ag47 S (j := 0) rfl rfl rfl (by first | with_reducible assumption | (rw [bv_length]; with_reducible assumption) | (rw [List.size_toArray, bv_length]; with_reducible assumption) | (simp [cat, length_zsum, zc84, msgC, hm.h0, hm.h1, hm.go, hm.sec, hm.j, hm.rh, hm.rb]; done) | (simp [cat, length_zsum, zc84, msgC, hm.h0, hm.h1, hm.go, hm.sec, hm.j, hm.rh, hm.rb]; omega) | rfl)) rfl ?_
    refine p_val (e_len rfl Try.underlying47) rfl ?_
    refine p_valB (e_gtr rfl rfl) rfl (fun hg11 => ?_) (fun hg11 => ?_)
    · refine p_val (e_move (v := .bool _) rfl) rfl ?_
      refine p_no rfl rfl rfl rfl rfl ?_
      refine p_no rfl rfl rfl rfl rfl ?_
      refine p_no rfl rfl rfl rfl rfl ?_
      refine p_no rfl rfl rfl rfl rfl ?_
      refine p_no rfl rfl rfl rfl rfl ?_
      refine p_val (e_pick_t rfl rfl) rfl ?_
      exact p_nil (x_then ⟨_, rfl, _, _, upds_eq ⟨rfl, rfl, trivial⟩, by first | (simp only [decide_eq_true_eq, eq_self, true_iff, iff_true, iff_false, Bool.false_eq_true, false_iff, ge_iff_le, gt_iff_lt, true_and, and_true, false_and, and_false, true_or, or_true, false_or, or_false, not_true_eq_false, not_false_eq_true]; omega) | (simp; done) | omega | (simp_all; done), S⟩)
    · refine p_val (e_move (v := .bool _) rfl) rfl ?_
      refine pg_val rfl rfl rfl rfl rfl (e_field rfl Try.underlying84 rfl sz54 (by decide)) ?_
      refine pg_val rfl rfl rfl rfl rfl (e_field rfl Try.underlying54 rfl sz47 (by decide)) ?_
      refine pg_val rfl rfl rfl rfl rfl (e_loadF1 (i := 21) (off := 238) rfl ag47 S (j := 0) rfl rfl rfl (by first | with_reducible assumption | (rw [bv_length]; with_reducible assumption) | (rw [List.size_toArray, bv_length]; with_reducible assumption) | (simp [cat, length_zsum, zc84, msgC, hm.h0, hm.h1, hm.go, hm.sec, hm.j, hm.rh, hm.rb]; done) | (simp [cat, length_zsum, zc84, msgC, hm.h0, hm.h1, hm.go, hm.sec, hm.j, hm.rh, hm.rb]; omega) | rfl)) ?_
      refine pg_val rfl rfl rfl rfl rfl (e_len rfl Try.underlying47) ?_
      refine pg_val rfl rfl rfl rfl rfl (e_gtr rfl rfl) ?_
      refine p_val (e_pick_f rfl rfl) rfl ?_
      exact p_nil (x_then ⟨_, rfl, _, _, upds_eq ⟨rfl, rfl, trivial⟩, by first | (simp only [decide_eq_true_eq, eq_self, true_iff, iff_true, iff_false, Bool.false_eq_true, false_iff, ge_iff_le, gt_iff_lt, true_and, and_true, false_and, and_false, true_or, or_true, false_or, or_false, not_true_eq_false, not_false_eq_true]; omega) | (simp; done) | omega | (simp_all; done), S⟩)
  · rintro f w ⟨u, b18, rfl, hb18, S⟩
    refine x_then ?_
    refine s_condb rfl (fun hc18 => ?_) (fun hc18 => ?_)
    · have hp18 : (1000 < (b.length : Int) ∨ 6000 < (s.length : Int)) := hb18.1 hc18
      refine s_seq (s_plain ?_)
      refine p_does (d_call Try.func43 nm43 rfl rfl (l28awake _)) rfl ?_
      rintro _ w ⟨rfl, hB⟩
      have S := S.below hB
      refine p_val (e_assign (v := .bool _) rfl) rfl ?_
      refine p_nil (x_then (s_ret (x_then_ret ?_)))
      exact post1 (v := .bool _) Try.results10 rfl (⟨rfl, S.to_below⟩)
    · have hp18 : ¬ (1000 < (b.length : Int) ∨ 6000 < (s.length : Int)) := fun h => by rw [hb18.2 h] at hc18; cases hc18
      refine s_skip (x_then (s_seq (s_plain ?_)))
      refine p_val (e_loadW 0 rfl ag84 sz84 S rfl rfl (by first | with_reducible assumption | (rw [bv_length]; with_reducible assumption) | (rw [List.size_toArray, bv_length]; with_reducible assumption) | (simp [cat, length_zsum, zc84, msgC, hm.h0, hm.h1, hm.go, hm.sec, hm.j, hm.rh, hm.rb]; done) | (simp [cat, length_zsum, zc84, msgC, hm.h0, hm.h1, hm.go, hm.sec, hm.j, hm.rh, hm.rb]; omega) | rfl)) rfl ?_
      refine p_does (d_call Try.func44 nm44 rfl rfl (tk_put _ m _ _ b _ _ s hm (S.rdOld RB rfl) (S.rdOld RS rfl) (by omega) (by omega))) rfl ?_
      rintro _ w ⟨k22, c22, o22, e22, rfl, hy22, hn22, T⟩
      have S := S.merge T rfl
      refine p_val (e_move (v := .tuple _) rfl) rfl ?_
      refine p_val (e_extract rfl rfl) rfl ?_
      refine p_val (e_extract rfl rfl) rfl ?_
      refine p_val (e_assign (v := .slice _ _ _) rfl) rfl ?_
      refine p_val (e_assign (v := .int _ _) rfl) rfl ?_
      refine p_nil (x_then (s_seq (s_seq ?_)))
      refine s_drawK (ks := [k22, some b1]) (ps := [Rw _ _ _ _ _, Ex _ _]) S [(true, 0), (true, 2), (false, 1), (false, 3), (true, 4)] [] [] mixed (by kernel_rfl) (by repeat (first | exact Calm.post _ _ _ | refine Calm.then ?_ _ | refine Calm.inB ?_ _)) (fun hS => ?_)
      have S := S.drew
      refine q_val (fun w hS => e_loadW 1 rfl ag84 sz84 hS rfl rfl (by first | with_reducible assumption | (rw [bv_length]; with_reducible assumption) | (rw [List.size_toArray, bv_length]; with_reducible assumption) | (simp [cat, length_zsum, zc84, msgC, hm.h0, hm.h1, hm.go, hm.sec, hm.j, hm.rh, hm.rb]; done) | (simp [cat, length_zsum, zc84, msgC, hm.h0, hm.h1, hm.go, hm.sec, hm.j, hm.rh, hm.rb]; omega) | rfl)) rfl hS ?_
      refine q_val (fun w hS => e_loadW 1 rfl ag84 sz84 hS rfl rfl (by first | with_reducible assumption | (rw [bv_length]; with_reducible assumption) | (rw [List.size_toArray, bv_length]; with_reducible assumption) | (simp [cat, length_zsum, zc84, msgC, hm.h0, hm.h1, hm.go, hm.sec, hm.j, hm.rh, hm.rb]; done) | (simp [cat, length_zsum, zc84, msgC, hm.h0, hm.h1, hm.go, hm.sec, hm.j, hm.rh, hm.rb]; omega) | rfl)) rfl hS ?_
      refine q_does (d_call Try.func45 nm45 rfl rfl (tk_right _ m _ _ _ _ _ _ hm)) rfl ?_
      rintro _ w ⟨rfl, hB⟩
      have S := S.below hB
      have hS := S.pk [0, 1] rfl
      refine ⟨hS, ?_⟩
      refine q_does (d_call Try.func46 nm46 rfl rfl (l28right _ m _ _ _ _ _ _ hm)) rfl ?_
      rintro _ w ⟨rfl, hB⟩
      have S := S.below hB
      have hS := S.pk [0, 1] rfl
      refine ⟨hS, ?_⟩
      refine q_val (fun w hS => e_neqB rfl rfl Try.underlying4) rfl hS ?_
      refine q_nil (p_nil (x_then ?_))
      refine s_condb rfl (fun hc29 => ?_) (fun hc29 => ?_)
      · exact False.elim (by simp at hc29)
      · refine s_skip (x_then (s_seq (s_seq (s_plain ?_))))
        refine p_val (e_loadW 1 rfl ag84 sz84 S rfl rfl (by first | with_reducible assumption | (rw [bv_length]; with_reducible assumption) | (rw [List.size_toArray, bv_length]; with_reducible assumption) | (simp [cat, length_zsum, zc84, msgC, hm.h0, hm.h1, hm.go, hm.sec, hm.j, hm.rh, hm.rb]; done) | (simp [cat, length_zsum, zc84, msgC, hm.h0, hm.h1, hm.go, hm.sec, hm.j, hm.rh, hm.rb]; omega) | rfl)) rfl ?_
        refine p_does (d_call Try.func46 nm46 rfl rfl (l28right _ m _ _ _ _ _ _ hm)) rfl ?_
        rintro _ w ⟨rfl, hB⟩
        have S := S.below hB
        refine p_val (e_not rfl) rfl ?_
        refine p_nil (x_then ?_)
        refine s_condb rfl (fun hc32 => ?_) (fun hc32 => ?_)
        · obtain ⟨rfl, rfl⟩ := hn22 (by simpa using hc32)
          refine s_seq ?_
          refine s_cutK (ks := [k22, some b1]) (ps := [Rw _ _ _ _ _, Ex _ _]) [] trivial S (fun keep ks ps f' w' => ∃ u bb, f' = upds u ((2, .bool bb) :: keep) ∧ (bb = true ↔ True) ∧ St w0 w' [] ks ps) ?_ ?_
          · refine s_plain ?_
            refine p_val (e_move (v := .slice _ _ _) rfl) rfl ?_
            refine p_val (e_len rfl Try.underlying47) rfl ?_
            refine p_valB (e_eql rfl rfl) rfl (fun hg35 => ?_) (fun hg35 => ?_)
            · refine p_val (e_move (v := .bool _) rfl) rfl ?_
              refine pg_val rfl rfl rfl rfl rfl (e_move (v := .int _ _) rfl) ?_
              refine pg_valB rfl rfl rfl rfl rfl (e_eql rfl rfl) (fun hg38 => ?_) (fun hg38 => ?_)
              · refine p_val (e_pick_t rfl rfl) rfl ?_
                refine p_val (e_move (v := .bool _) rfl) rfl ?_
                refine pg_does rfl rfl rfl rfl rfl (d_call Try.func43 nm43 rfl rfl (l28awake _)) ?_
                rintro _ w ⟨rfl, hB⟩
                have S := S.below hB
                refine p_val (e_pick_t rfl rfl) rfl ?_
                refine p_val (e_assign (v := .bool _) rfl) rfl ?_
                exact p_nil (x_then ⟨_, rfl, _, _, upds_eq ⟨rfl, trivial⟩, by first | (simp only [decide_eq_true_eq, eq_self, true_iff, iff_true, iff_false, Bool.false_eq_true, false_iff, ge_iff_le, gt_iff_lt, true_and, and_true, false_and, and_false, true_or, or_true, false_or, or_false, not_true_eq_false, not_false_eq_true]; omega) | (simp; done) | omega | (simp_all; done), S⟩)
              · exact False.elim (by simp at hg38)
            · exact False.elim (by simp at hg35)
          · rintro f w ⟨u, b2, rfl, hb2, S⟩
            refine x_then (s_ret (x_then_ret ?_))
            exact post1 (v := .bool _) Try.results10 rfl (by rw [hb2.2 trivial]; exact ⟨rfl, S.to_below⟩)
        · have hyes : m.right := by simpa using hc32
          obtain ⟨ho, rfl⟩ := hy22 hyes
          have hob : Bytes o22 := by rw [ho]; exact tput_by hby hbb hbs
          have hol : o22.length ≤ 300 + b.length + s.length := by rw [ho]; exact tput_len hm
          have hox := tk_ok o22
          have hlx := tk_len o22
          refine s_skip (x_then (s_seq (s_plain ?_)))
          refine p_val (e_move (v := .slice _ _ _) rfl) rfl ?_
          refine p_does (d_call Try.func47 nm47 rfl rfl (tk_get _ _ _ o22 (S.rdRw 0 rfl rfl) hob (S.capRw 0 rfl rfl) (by omega))) rfl ?_
          rintro _ w ⟨k45, c45, j45, g45, rfl, T⟩
          have S := S.merge T rfl
          refine p_val (e_move (v := .tuple _) rfl) rfl ?_
          refine p_val (e_extract rfl rfl) rfl ?_
          refine p_val (e_extract rfl rfl) rfl ?_
          refine p_does (d_allocA S zs84) rfl ?_
          rintro _ w ⟨b5, rfl, S⟩
          refine p_does (d_storeW S 0 rfl rfl (by first | exact bv_one _ | exact sv_one _ | exact iv_one _ | with_reducible assumption | (refine One.mem ?_; repeat (first | exact One.bv _ | exact One.sv _ | exact One.iv _ | exact One.nil | exact One.cat0 | refine One.cat1 ?_ ?_ | refine One.cons rfl ?_ | refine One.append ?_ ?_))) sz84 (by first | with_reducible assumption | (rw [bv_length]; with_reducible assumption) | (rw [List.size_toArray, bv_length]; with_reducible assumption) | (simp [cat, length_zsum, zc84, msgC, hm.h0, hm.h1, hm.go, hm.sec, hm.j, hm.rh, hm.rb, hox.h0, hox.h1, hox.go, hox.sec, hox.j, hox.rh, hox.rb]; done) | (simp [cat, length_zsum, zc84, msgC, hm.h0, hm.h1, hm.go, hm.sec, hm.j, hm.rh, hm.rb, hox.h0, hox.h1, hox.go, hox.sec, hox.j, hox.rh, hox.rb]; omega) | rfl) rfl rfl (by first | with_reducible assumption | (rw [bv_length]; with_reducible assumption) | (rw [List.size_toArray, bv_length]; with_reducible assumption) | (simp [cat, length_zsum, zc84, msgC, hm.h0, hm.h1, hm.go, hm.sec, hm.j, hm.rh, hm.rb, hox.h0, hox.h1, hox.go, hox.sec, hox.j, hox.rh, hox.rb]; done) | (simp [cat, length_zsum, zc84, msgC, hm.h0, hm.h1, hm.go, hm.sec, hm.j, hm.rh, hm.rb, hox.h0, hox.h1, hox.go, hox.sec, hox.j, hox.rh, hox.rb]; omega) | rfl)) rfl ?_
          intro _ w S
          refine p_val (e_assign (v := .int _ _) rfl) rfl ?_
          refine p_nil (x_then (s_seq (s_seq ?_)))
          refine s_cutK (ks := [some b5, k45, j45, k22, some b1]) (ps := [Ex _ _, Rw _ _ _ _ _, Rw _ _ _ _ _, Rw _ _ _ _ _, Ex _ _]) [(1, .pointer _), (3, .slice _ _ _), (5, .pointer _), (6, .int _ _)] ⟨rfl, rfl, rfl, rfl, trivial⟩ S (fun keep ks ps f' w' => ∃ u bb, f' = upds u ((57, .bool bb) :: keep) ∧ (bb = true ↔ False) ∧ St w0 w' [] ks ps) ?_ ?_
          · refine s_drawTK (ks := [some b5, k45, j45, k22, some b1]) (ps := [Ex _ _, Rw _ _ _ _ _, Rw _ _ _ _ _, Rw _ _ _ _ _, Ex _ _]) S (.sq [(true, 0), (true, 1), (true, 2), (true, 3), (true, 4), (true, 5), (false, 6)] (.re (.sq [(true, 7), (true, 8), (true, 9)] .stop))) [] [] mixed (by kernel_rfl) (by repeat (first | exact Calm.post _ _ _ | refine Calm.then ?_ _ | refine Calm.inB ?_ _)) (fun hS => ?_)
            have S := S.drew
            refine t_sq ?_
            refine q_val (fun w hS => e_move (v := .int _ _) rfl) rfl hS ?_
            refine q_valB (fun w hS => e_neq rfl rfl) rfl hS (fun hg49 => ?_) (fun hg49 => ?_)
            · exact False.elim (hg49 rfl)
            · refine q_val (fun w hS => e_move (v := .bool _) rfl) rfl hS ?_
              refine qg_val rfl rfl rfl rfl rfl (fun w hS => e_move (v := .slice _ _ _) rfl) hS ?_
              refine qg_val rfl rfl rfl rfl rfl (fun w hS => e_bytesStr rfl Try.underlying47 Try.underlying5 Try.underlying9 ((hS.rdRw 3 rfl rfl))) hS ?_
              refine qg_val rfl rfl rfl rfl rfl (fun w hS => e_loadW 4 rfl ag84 sz84 hS rfl rfl (by first | with_reducible assumption | (rw [bv_length]; with_reducible assumption) | (rw [List.size_toArray, bv_length]; with_reducible assumption) | (simp [cat, length_zsum, zc84, msgC, hm.h0, hm.h1, hm.go, hm.sec, hm.j, hm.rh, hm.rb]; done) | (simp [cat, length_zsum, zc84, msgC, hm.h0, hm.h1, hm.go, hm.sec, hm.j, hm.rh, hm.rb]; omega) | rfl)) hS ?_
              refine qg_does rfl rfl rfl rfl rfl (d_call Try.func48 nm48 rfl rfl (l28bytes _ m _ _ b _ _ s hm (S.rdOld RB rfl) (S.rdOld RS rfl) (by omega) (by omega))) ?_
              rintro _ w ⟨k54, c54, rfl, T⟩
              have S := S.merge T rfl
              have hS := S.pk [1, 2, 3, 4, 5] rfl
              refine ⟨hS, ?_⟩
              refine q_nil ?_
              refine t_reK (ks := [some b5, k45, j45, k22, some b1, k54]) (ps := [Ex _ _, Rw _ _ _ _ _, Rw _ _ _ _ _, Rw _ _ _ _ _, Ex _ _, Rw _ _ _ _ _]) (S.pk [1, 2, 3, 4, 5, 0] rfl) (fun w' h => h.pk [0, 1, 2, 3, 4] rfl) (fun hS => ?_)
              refine t_sq ?_
              refine qg_val rfl rfl rfl rfl rfl (fun w hS => e_bytesStr rfl Try.underlying47 Try.underlying5 Try.underlying9 ((hS.rdRw 5 rfl rfl))) hS ?_
              refine qg_val rfl rfl rfl rfl rfl (fun w hS => e_neqT rfl rfl (hob) (by rw [← ho]; exact hob)) hS ?_
              refine q_val (fun w hS => e_pick_f rfl rfl) rfl hS ?_
              refine q_nil ?_
              refine t_stop ?_
              exact p_nil (x_then ⟨_, rfl, _, _, upds_eq ⟨rfl, rfl, rfl, rfl, rfl, trivial⟩, by first | (simp only [decide_eq_true_eq, eq_self, true_iff, iff_true, iff_false, Bool.false_eq_true, false_iff, ge_iff_le, gt_iff_lt, true_and, and_true, false_and, and_false, true_or, or_true, false_or, or_false, not_true_eq_false, not_false_eq_true]; omega) | (simp; done) | omega | (simp_all; done), S.pk [1, 2, 3, 4, 5] rfl⟩)
          · rintro f w ⟨u, b57, rfl, hb57, S⟩
            refine x_then ?_
            refine s_condb rfl (fun hc57 => ?_) (fun hc57 => ?_)
            · exact False.elim ((fun (hp57 : False) => hp57) (hb57.1 hc57))
            · have hp57 : ¬ False := fun h => by rw [hb57.2 h] at hc57; cases hc57
              refine s_skip (x_then (s_seq (s_seq (s_plain ?_))))
              refine p_val (e_move (v := .int _ _) rfl) rfl ?_
              refine p_val (e_neq rfl rfl) rfl ?_
              refine p_nil (x_then ?_)
              refine s_cond rfl (fun hc59 => ?_) (fun hc59 => ?_)
              · have e0 := tk_no hc59
                refine s_seq ?_
                refine s_cutK (ks := [some b5, k45, j45, k22, some b1]) (ps := [Ex _ _, Rw _ _ _ _ _, Rw _ _ _ _ _, Rw _ _ _ _ _, Ex _ _]) [] trivial S (fun keep ks ps f' w' => ∃ u bb, f' = upds u ((2, .bool bb) :: keep) ∧ (bb = true ↔ True) ∧ St w0 w' [] ks ps) ?_ ?_
                · refine s_plain ?_
                  refine p_val (e_field rfl Try.underlying84 rfl sz3 (by decide)) rfl ?_
                  refine p_val (e_loadF1 (i := 0) (off := 0) rfl ag3 S (j := 0) rfl rfl rfl (by first | with_reducible assumption | (rw [bv_length]; with_reducible assumption) | (rw [List.size_toArray, bv_length]; with_reducible assumption) | (simp [cat, length_zsum, zc84, msgC, hm.h0, hm.h1, hm.go, hm.sec, hm.j, hm.rh, hm.rb, hox.h0, hox.h1, hox.go, hox.sec, hox.j, hox.rh, hox.rb]; done) | (simp [cat, length_zsum, zc84, msgC, hm.h0, hm.h1, hm.go, hm.sec, hm.j, hm.rh, hm.rb, hox.h0, hox.h1, hox.go, hox.sec, hox.j, hox.rh, hox.rb]; omega) | rfl)) rfl ?_
                  refine p_valB (e_eql rfl rfl) rfl (fun hg62 => ?_) (fun hg62 => ?_)
                  · refine p_val (e_move (v := .bool _) rfl) rfl ?_
                    refine pg_val rfl rfl rfl rfl rfl (e_loadW 4 rfl ag84 sz84 S rfl rfl (by first | with_reducible assumption | (rw [bv_length]; with_reducible assumption) | (rw [List.size_toArray, bv_length]; with_reducible assumption) | (simp [cat, length_zsum, zc84, msgC, hm.h0, hm.h1, hm.go, hm.sec, hm.j, hm.rh, hm.rb]; done) | (simp [cat, length_zsum, zc84, msgC, hm.h0, hm.h1, hm.go, hm.sec, hm.j, hm.rh, hm.rb]; omega) | rfl)) ?_
                    refine pg_does rfl rfl rfl rfl rfl (d_call Try.func49 nm49 rfl rfl (l28plain _ m _ _ _ _ _ _ hm)) ?_
                    rintro _ w ⟨rfl, hB⟩
                    have S := S.below hB
                    rcases Classical.em (m.plain) with hg65 | hg65
                    · exact False.elim (hc59 (by rw [ho]; exact tk_back hm hyes hg65 (by omega) (by omega)))
                    · rw [decide_eq_false hg65]
                      refine pg_val rfl rfl rfl rfl rfl (e_not rfl) ?_
                      refine p_val (e_pick_t rfl rfl) rfl ?_
                      refine p_val (e_move (v := .bool _) rfl) rfl ?_
                      refine pg_does rfl rfl rfl rfl rfl (d_call Try.func43 nm43 rfl rfl (l28awake _)) ?_
                      rintro _ w ⟨rfl, hB⟩
                      have S := S.below hB
                      refine p_val (e_pick_t rfl rfl) rfl ?_
                      refine p_val (e_assign (v := .bool _) rfl) rfl ?_
                      exact p_nil (x_then ⟨_, rfl, _, _, upds_eq ⟨rfl, trivial⟩, by first | (simp only [decide_eq_true_eq, eq_self, true_iff, iff_true, iff_false, Bool.false_eq_true, false_iff, ge_iff_le, gt_iff_lt, true_and, and_true, false_and, and_false, true_or, or_true, false_or, or_false, not_true_eq_false, not_false_eq_true]; omega) | (simp; done) | omega | (simp_all; done), S⟩)
                  · exact False.elim (hg62 (by rw [e0]; rfl))
                · rintro f w ⟨u, b2, rfl, hb2, S⟩
                  refine x_then (s_ret (x_then_ret ?_))
                  exact post1 (v := .bool _) Try.results10 rfl (by rw [hb2.2 trivial]; exact ⟨rfl, S.to_below⟩)
              · have h0 : (rMsg o22).e = 0 := Classical.not_not.1 hc59
                have hinv := tk_inv hob h0
                have hkft : (rMsg o22).m.k = m.k ∧ (rMsg o22).m.f = m.f ∧ (rMsg o22).m.t = m.t := by have h := h0; rw [ho] at h ⊢; exact tk_kft hyes h
                refine s_skip (x_then (s_seq ?_))
                refine s_cutK (ks := [some b5, k45, j45, k22, some b1]) (ps := [Ex _ _, Rw _ _ _ _ _, Rw _ _ _ _ _, Rw _ _ _ _ _, Ex _ _]) [] trivial S (fun keep ks ps f' w' => ∃ u bb, f' = upds u ((2, .bool bb) :: keep) ∧ (bb = true ↔ True) ∧ St w0 w' [] ks ps) ?_ ?_
                · refine s_drawTK (ks := [some b5, k45, j45, k22, some b1]) (ps := [Ex _ _, Rw _ _ _ _ _, Rw _ _ _ _ _, Rw _ _ _ _ _, Ex _ _]) S (.sq [(true, 0), (true, 3), (true, 4), (false, 1)] (.re (.sq [(true, 2), (true, 5), (true, 6), (true, 7), (true, 8), (true, 9), (true, 10), (true, 11), (true, 12), (true, 13), (true, 14), (true, 15), (true, 16), (true, 17), (true, 18), (true, 19), (true, 20), (true, 21), (true, 22), (true, 23), (true, 24), (true, 25), (true, 26), (true, 27), (false, 28), (true, 29)] .stop))) [30] [30] mixed (by kernel_rfl) (by repeat (first | exact Calm.post _ _ _ | refine Calm.then ?_ _ | refine Calm.inB ?_ _)) (fun hS => ?_)
                  have S := S.drew
                  refine t_sq ?_
                  refine q_val (fun w hS => e_loadW 0 rfl ag84 sz84 hS rfl rfl (by first | with_reducible assumption | (rw [bv_length]; with_reducible assumption) | (rw [List.size_toArray, bv_length]; with_reducible assumption) | (simp [cat, length_zsum, zc84, msgC, hm.h0, hm.h1, hm.go, hm.sec, hm.j, hm.rh, hm.rb, hox.h0, hox.h1, hox.go, hox.sec, hox.j, hox.rh, hox.rb]; done) | (simp [cat, length_zsum, zc84, msgC, hm.h0, hm.h1, hm.go, hm.sec, hm.j, hm.rh, hm.rb, hox.h0, hox.h1, hox.go, hox.sec, hox.j, hox.rh, hox.rb]; omega) | rfl)) rfl hS ?_
                  refine q_val (fun w hS => e_move (v := .slice _ _ _) rfl) rfl hS ?_
                  refine q_val (fun w hS => e_bytesStr rfl Try.underlying47 Try.underlying5 Try.underlying9 ((hS.rdRw 3 rfl rfl))) rfl hS ?_
                  refine q_does (d_call Try.func48 nm48 rfl rfl (l28bytes _ (rMsg o22).m _ _ (rMsg o22).b _ _ (rMsg o22).s hox (S.rdRw 1 rfl rfl) (S.rdRw 2 rfl rfl) (by omega) (by omega))) rfl ?_
                  rintro _ w ⟨k72, c72, rfl, T⟩
                  have S := S.merge T rfl
                  have hS := S.pk [1, 2, 3, 4, 5] rfl
                  refine ⟨hS, ?_⟩
                  refine q_nil ?_
                  refine t_reK (ks := [some b5, k45, j45, k22, some b1, k72]) (ps := [Ex _ _, Rw _ _ _ _ _, Rw _ _ _ _ _, Rw _ _ _ _ _, Ex _ _, Rw _ _ _ _ _]) (S.pk [1, 2, 3, 4, 5, 0] rfl) (fun w' h => h.pk [0, 1, 2, 3, 4] rfl) (fun hS => ?_)
                  refine t_sq ?_
                  refine q_val (fun w hS => e_bytesStr rfl Try.underlying47 Try.underlying5 Try.underlying9 ((hS.rdRw 5 rfl rfl))) rfl hS ?_
                  refine q_valB (fun w hS => e_eqlT rfl rfl (by rw [hinv.2.2]; exact hob) (hob)) rfl hS (fun hg76 => ?_) (fun hg76 => ?_)
                  · refine q_val (fun w hS => e_move (v := .bool _) rfl) rfl hS ?_
                    refine qg_val rfl rfl rfl rfl rfl (fun w hS => e_field rfl Try.underlying84 rfl sz3 (by decide)) hS ?_
                    refine qg_val rfl rfl rfl rfl rfl (fun w hS => e_loadF1 (i := 0) (off := 0) rfl ag3 hS (j := 0) rfl rfl rfl (by first | with_reducible assumption | (rw [bv_length]; with_reducible assumption) | (rw [List.size_toArray, bv_length]; with_reducible assumption) | (simp [cat, length_zsum, zc84, msgC, hm.h0, hm.h1, hm.go, hm.sec, hm.j, hm.rh, hm.rb, hox.h0, hox.h1, hox.go, hox.sec, hox.j, hox.rh, hox.rb]; done) | (simp [cat, length_zsum, zc84, msgC, hm.h0, hm.h1, hm.go, hm.sec, hm.j, hm.rh, hm.rb, hox.h0, hox.h1, hox.go, hox.sec, hox.j, hox.rh, hox.rb]; omega) | rfl)) hS ?_
                    refine qg_val rfl rfl rfl rfl rfl (fun w hS => e_field rfl Try.underlying84 rfl sz3 (by decide)) hS ?_
                    refine qg_val rfl rfl rfl rfl rfl (fun w hS => e_loadF1 (i := 0) (off := 0) rfl ag3 hS (j := 4) rfl rfl rfl (by first | with_reducible assumption | (rw [bv_length]; with_reducible assumption) | (rw [List.size_toArray, bv_length]; with_reducible assumption) | (simp [cat, length_zsum, zc84, msgC, hm.h0, hm.h1, hm.go, hm.sec, hm.j, hm.rh, hm.rb]; done) | (simp [cat, length_zsum, zc84, msgC, hm.h0, hm.h1, hm.go, hm.sec, hm.j, hm.rh, hm.rb]; omega) | rfl)) hS ?_
                    refine qg_valB rfl rfl rfl rfl rfl (fun w hS => e_eql rfl rfl) hS (fun hg82 => ?_) (fun hg82 => ?_)
                    · refine q_val (fun w hS => e_pick_t rfl rfl) rfl hS ?_
                      refine q_val (fun w hS => e_move (v := .bool _) rfl) rfl hS ?_
                      refine qg_val rfl rfl rfl rfl rfl (fun w hS => e_field rfl Try.underlying84 rfl sz3 (by decide)) hS ?_
                      refine qg_val rfl rfl rfl rfl rfl (fun w hS => e_loadF1 (i := 1) (off := 1) rfl ag3 hS (j := 0) rfl rfl rfl (by first | with_reducible assumption | (rw [bv_length]; with_reducible assumption) | (rw [List.size_toArray, bv_length]; with_reducible assumption) | (simp [cat, length_zsum, zc84, msgC, hm.h0, hm.h1, hm.go, hm.sec, hm.j, hm.rh, hm.rb, hox.h0, hox.h1, hox.go, hox.sec, hox.j, hox.rh, hox.rb]; done) | (simp [cat, length_zsum, zc84, msgC, hm.h0, hm.h1, hm.go, hm.sec, hm.j, hm.rh, hm.rb, hox.h0, hox.h1, hox.go, hox.sec, hox.j, hox.rh, hox.rb]; omega) | rfl)) hS ?_
                      refine qg_val rfl rfl rfl rfl rfl (fun w hS => e_field rfl Try.underlying84 rfl sz3 (by decide)) hS ?_
                      refine qg_val rfl rfl rfl rfl rfl (fun w hS => e_loadF1 (i := 1) (off := 1) rfl ag3 hS (j := 4) rfl rfl rfl (by first | with_reducible assumption | (rw [bv_length]; with_reducible assumption) | (rw [List.size_toArray, bv_length]; with_reducible assumption) | (simp [cat, length_zsum, zc84, msgC, hm.h0, hm.h1, hm.go, hm.sec, hm.j, hm.rh, hm.rb]; done) | (simp [cat, length_zsum, zc84, msgC, hm.h0, hm.h1, hm.go, hm.sec, hm.j, hm.rh, hm.rb]; omega) | rfl)) hS ?_
                      refine qg_valB rfl rfl rfl rfl rfl (fun w hS => e_eql rfl rfl) hS (fun hg89 => ?_) (fun hg89 => ?_)
                      · refine q_val (fun w hS => e_pick_t rfl rfl) rfl hS ?_
                        refine q_val (fun w hS => e_move (v := .bool _) rfl) rfl hS ?_
                        refine qg_val rfl rfl rfl rfl rfl (fun w hS => e_field rfl Try.underlying84 rfl sz3 (by decide)) hS ?_
                        refine qg_val rfl rfl rfl rfl rfl (fun w hS => e_loadF1 (i := 2) (off := 2) rfl ag3 hS (j := 0) rfl rfl rfl (by first | with_reducible assumption | (rw [bv_length]; with_reducible assumption) | (rw [List.size_toArray, bv_length]; with_reducible assumption) | (simp [cat, length_zsum, zc84, msgC, hm.h0, hm.h1, hm.go, hm.sec, hm.j, hm.rh, hm.rb, hox.h0, hox.h1, hox.go, hox.sec, hox.j, hox.rh, hox.rb]; done) | (simp [cat, length_zsum, zc84, msgC, hm.h0, hm.h1, hm.go, hm.sec, hm.j, hm.rh, hm.rb, hox.h0, hox.h1, hox.go, hox.sec, hox.j, hox.rh, hox.rb]; omega) | rfl)) hS ?_
                        refine qg_val rfl rfl rfl rfl rfl (fun w hS => e_field rfl Try.underlying84 rfl sz3 (by decide)) hS ?_
                        refine qg_val rfl rfl rfl rfl rfl (fun w hS => e_loadF1 (i := 2) (off := 2) rfl ag3 hS (j := 4) rfl rfl rfl (by first | with_reducible assumption | (rw [bv_length]; with_reducible assumption) | (rw [List.size_toArray, bv_length]; with_reducible assumption) | (simp [cat, length_zsum, zc84, msgC, hm.h0, hm.h1, hm.go, hm.sec, hm.j, hm.rh, hm.rb]; done) | (simp [cat, length_zsum, zc84, msgC, hm.h0, hm.h1, hm.go, hm.sec, hm.j, hm.rh, hm.rb]; omega) | rfl)) hS ?_
                        refine qg_valB rfl rfl rfl rfl rfl (fun w hS => e_eql rfl rfl) hS (fun hg96 => ?_) (fun hg96 => ?_)
                        · refine q_val (fun w hS => e_pick_t rfl rfl) rfl hS ?_
                          refine q_val (fun w hS => e_move (v := .bool _) rfl) rfl hS ?_
                          refine qg_does rfl rfl rfl rfl rfl (d_call Try.func43 nm43 rfl rfl (l28awake _)) ?_
                          rintro _ w ⟨rfl, hB⟩
                          have S := S.below hB
                          have hS := S.pk [1, 2, 3, 4, 5, 0] rfl
                          refine ⟨hS, ?_⟩
                          refine q_val (fun w hS => e_pick_t rfl rfl) rfl hS ?_
                          refine q_nil ?_
                          refine t_stop ?_
                          refine p_val (e_assign (v := .bool _) rfl) rfl ?_
                          exact p_nil (x_then ⟨_, rfl, _, _, upds_eq ⟨rfl, trivial⟩, by first | (simp only [decide_eq_true_eq, eq_self, true_iff, iff_true, iff_false, Bool.false_eq_true, false_iff, ge_iff_le, gt_iff_lt, true_and, and_true, false_and, and_false, true_or, or_true, false_or, or_false, not_true_eq_false, not_false_eq_true]; omega) | (simp; done) | omega | (simp_all; done), S.pk [1, 2, 3, 4, 5] rfl⟩)
                        · exact False.elim (hg96 hkft.2.2)
                      · exact False.elim (hg89 hkft.2.1)
                    · exact False.elim (hg82 hkft.1)
                  · exact False.elim (hg76 hinv.2.2)
                · rintro f w ⟨u, b2, rfl, hb2, S⟩
                  refine x_then (s_ret ?_)
                  exact post1 (v := .bool _) Try.results10 rfl (by rw [hb2.2 trivial]; exact ⟨rfl, S.to_below⟩)
theorem tgets_calls (w0 : World) (A : Option Addr) (n c : Nat) (l : List Nat) (hl : l.length = n) (R : Rd w0 1 A n (bv l)) (bR : Bytes l) (hc : n ≤ c) :
    Ret Try.prog 11 [.slice A n c] w0 fun v w' => v = .bool true ∧ Below w0.heap.size w0 w' := by
  refine enter Try.func11 rfl Try.ntmps11 (Nat.le_of_ble_eq_true rfl) ?_
  have S := St.init w0
  obtain ⟨y, hy⟩ : ∃ y, y = l.take (min n 6000) := ⟨_, rfl⟩
  have hyl : y.length = min n 6000 := by rw [hy, List.length_take]; omega
  have RG : Rd w0 1 A y.length (bv y) := by rw [hyl, hy]; exact Rd.take_bv R (Nat.min_le_left _ _)
  have bRG : Bytes y := by rw [hy]; exact fun x hx => bR x (List.mem_of_mem_take hx)
  have cRG : y.length ≤ c := by omega
  have nRG : y.length ≤ 1099511000000 := by omega
  have hox := tk_ok y
  have hlx := tk_len y
  refine s_seq (s_plain ?_)
  refine p_val (e_assign (v := .bool _) rfl) rfl ?_
  refine p_nil (x_then (s_seq ?_))
  refine s_cutK (ks := []) (ps := []) [] trivial S (fun keep ks ps f' w' => ∃ u n1, f' = upds u ((0, .slice A n1 c) :: keep) ∧ (n1 = y.length) ∧ St w0 w' [] [] []) ?_ ?_
  · refine s_seq (s_plain ?_)
    refine p_val (e_move (v := .slice _ _ _) rfl) rfl ?_
    refine p_val (e_len rfl Try.underlying47) rfl ?_
    refine p_val (e_gtr rfl rfl) rfl ?_
    refine p_nil (x_then ?_)
    refine s_cond rfl (fun hc7 => ?_) (fun hc7 => ?_)
    · refine s_plain ?_
      refine p_val (e_move (v := .slice _ _ _) rfl) rfl ?_
      refine p_val (e_sl_h ((6000)) rfl rfl (rfl) (by omega) Try.underlying47 sz5) rfl ?_
      refine p_val (e_assign (v := .slice _ _ _) rfl) rfl ?_
      refine p_nil ?_
      exact x_then ⟨_, rfl, _, _, upds_eq ⟨rfl, trivial⟩, by omega, S⟩
    · refine s_skip ?_
      exact x_then ⟨_, rfl, _, _, upds_eq ⟨rfl, trivial⟩, by omega, S⟩
  · rintro f w ⟨u, n1, rfl, hn1, S⟩
    subst hn1
    refine x_then (s_seq (s_plain ?_))
    refine p_val (e_move (v := .slice _ _ _) rfl) rfl ?_
    refine p_does (d_call Try.func47 nm47 rfl rfl (tk_get _ _ _ y (S.rdOld RG rfl) bRG cRG nRG)) rfl ?_
    rintro _ w ⟨k12, c12, j12, g12, rfl, T⟩
    have S := S.merge T rfl
    refine p_val (e_move (v := .tuple _) rfl) rfl ?_
    refine p_val (e_extract rfl rfl) rfl ?_
    refine p_val (e_extract rfl rfl) rfl ?_
    refine p_does (d_allocA S zs84) rfl ?_
    rintro _ w ⟨b3, rfl, S⟩
    refine p_does (d_storeW S 0 rfl rfl (by first | exact bv_one _ | exact sv_one _ | exact iv_one _ | with_reducible assumption | (refine One.mem ?_; repeat (first | exact One.bv _ | exact One.sv _ | exact One.iv _ | exact One.nil | exact One.cat0 | refine One.cat1 ?_ ?_ | refine One.cons rfl ?_ | refine One.append ?_ ?_))) sz84 (by first | with_reducible assumption | (rw [bv_length]; with_reducible assumption) | (rw [List.size_toArray, bv_length]; with_reducible assumption) | (simp [cat, length_zsum, zc84, msgC, hox.h0, hox.h1, hox.go, hox.sec, hox.j, hox.rh, hox.rb]; done) | (simp [cat, length_zsum, zc84, msgC, hox.h0, hox.h1, hox.go, hox.sec, hox.j, hox.rh, hox.rb]; omega) | rfl) rfl rfl (by first | with_reducible assumption | (rw [bv_length]; with_reducible assumption) | (rw [List.size_toArray, bv_length]; with_reducible assumption) | (simp [cat, length_zsum, zc84, msgC, hox.h0, hox.h1, hox.go, hox.sec, hox.j, hox.rh, hox.rb]; done) | (simp [cat, length_zsum, zc84, msgC, hox.h0, hox.h1, hox.go, hox.sec, hox.j, hox.rh, hox.rb]; omega) | rfl)) rfl ?_
    intro _ w S
    refine p_val (e_assign (v := .int _ _) rfl) rfl ?_
    refine p_nil (x_then (s_seq (s_seq (s_plain ?_))))
    refine p_val (e_move (v := .int _ _) rfl) rfl ?_
    refine p_val (e_neq rfl rfl) rfl ?_
    refine p_nil (x_then ?_)
    refine s_cond rfl (fun hc16 => ?_) (fun hc16 => ?_)
    · have e0 := tk_no hc16
      have z1 : (rMsg y).m.k = 0 := by rw [e0]; rfl
      have z2 : (rMsg y).m.f = 0 := by rw [e0]; rfl
      have z3 : (rMsg y).m.t = 0 := by rw [e0]; rfl
      have z4 : (rMsg y).m.m = 0 := by rw [e0]; rfl
      have z5 : (rMsg y).b.length = 0 := by rw [e0]; rfl
      have z6 : (rMsg y).s.length = 0 := by rw [e0]; rfl
      refine s_seq ?_
      refine s_cutK (ks := [some b3, k12, j12]) (ps := [Ex _ _, Rw _ _ _ _ _, Rw _ _ _ _ _]) [] trivial S (fun keep ks ps f' w' => ∃ u bb, f' = upds u ((2, .bool bb) :: keep) ∧ (bb = true ↔ True) ∧ St w0 w' [] ks ps) ?_ ?_
      · refine s_plain ?_
        refine p_val (e_field rfl Try.underlying84 rfl sz3 (by decide)) rfl ?_
        refine p_val (e_loadF1 (i := 0) (off := 0) rfl ag3 S (j := 0) rfl rfl rfl (by first | with_reducible assumption | (rw [bv_length]; with_reducible assumption) | (rw [List.size_toArray, bv_length]; with_reducible assumption) | (simp [cat, length_zsum, zc84, msgC, hox.h0, hox.h1, hox.go, hox.sec, hox.j, hox.rh, hox.rb]; done) | (simp [cat, length_zsum, zc84, msgC, hox.h0, hox.h1, hox.go, hox.sec, hox.j, hox.rh, hox.rb]; omega) | rfl)) rfl ?_
        refine p_valB (e_eql rfl rfl) rfl (fun hg19 => ?_) (fun hg19 => ?_)
        · refine p_val (e_move (v := .bool _) rfl) rfl ?_
          refine pg_val rfl rfl rfl rfl rfl (e_field rfl Try.underlying84 rfl sz3 (by decide)) ?_
          refine pg_val rfl rfl rfl rfl rfl (e_loadF1 (i := 1) (off := 1) rfl ag3 S (j := 0) rfl rfl rfl (by first | with_reducible assumption | (rw [bv_length]; with_reducible assumption) | (rw [List.size_toArray, bv_length]; with_reducible assumption) | (simp [cat, length_zsum, zc84, msgC, hox.h0, hox.h1, hox.go, hox.sec, hox.j, hox.rh, hox.rb]; done) | (simp [cat, length_zsum, zc84, msgC, hox.h0, hox.h1, hox.go, hox.sec, hox.j, hox.rh, hox.rb]; omega) | rfl)) ?_
          refine pg_val rfl rfl rfl rfl rfl (e_field rfl Try.underlying84 rfl sz3 (by decide)) ?_
          refine pg_val rfl rfl rfl rfl rfl (e_loadF1 (i := 2) (off := 2) rfl ag3 S (j := 0) rfl rfl rfl (by first | with_reducible assumption | (rw [bv_length]; with_reducible assumption) | (rw [List.size_toArray, bv_length]; with_reducible assumption) | (simp [cat, length_zsum, zc84, msgC, hox.h0, hox.h1, hox.go, hox.sec, hox.j, hox.rh, hox.rb]; done) | (simp [cat, length_zsum, zc84, msgC, hox.h0, hox.h1, hox.go, hox.sec, hox.j, hox.rh, hox.rb]; omega) | rfl)) ?_
          refine pg_val rfl rfl rfl rfl rfl (e_add64 rfl rfl (by omega)) ?_
          refine pg_val rfl rfl rfl rfl rfl (e_field rfl Try.underlying84 rfl sz3 (by decide)) ?_
          refine pg_val rfl rfl rfl rfl rfl (e_loadF1 (i := 10) (off := 103) rfl ag3 S (j := 0) rfl rfl rfl (by first | with_reducible assumption | (rw [bv_length]; with_reducible assumption) | (rw [List.size_toArray, bv_length]; with_reducible assumption) | (simp [cat, length_zsum, zc84, msgC, hox.h0, hox.h1, hox.go, hox.sec, hox.j, hox.rh, hox.rb]; done) | (simp [cat, length_zsum, zc84, msgC, hox.h0, hox.h1, hox.go, hox.sec, hox.j, hox.rh, hox.rb]; omega) | rfl)) ?_
          refine pg_val rfl rfl rfl rfl rfl (e_add64 rfl rfl (by omega)) ?_
          refine pg_valB rfl rfl rfl rfl rfl (e_eql rfl rfl) (fun hg29 => ?_) (fun hg29 => ?_)
          · refine p_val (e_pick_t rfl rfl) rfl ?_
            refine p_val (e_move (v := .bool _) rfl) rfl ?_
            refine pg_val rfl rfl rfl rfl rfl (e_field rfl Try.underlying84 rfl sz82 (by decide)) ?_
            refine pg_val rfl rfl rfl rfl rfl (e_field rfl Try.underlying82 rfl sz47 (by decide)) ?_
            refine pg_val rfl rfl rfl rfl rfl (e_loadF1 (i := 15) (off := 170) rfl ag47 S (j := 0) rfl rfl rfl (by first | with_reducible assumption | (rw [bv_length]; with_reducible assumption) | (rw [List.size_toArray, bv_length]; with_reducible assumption) | (simp [cat, length_zsum, zc84, msgC, hox.h0, hox.h1, hox.go, hox.sec, hox.j, hox.rh, hox.rb]; done) | (simp [cat, length_zsum, zc84, msgC, hox.h0, hox.h1, hox.go, hox.sec, hox.j, hox.rh, hox.rb]; omega) | rfl)) ?_
            refine pg_val rfl rfl rfl rfl rfl (e_len rfl Try.underlying47) ?_
            refine pg_val rfl rfl rfl rfl rfl (e_field rfl Try.underlying84 rfl sz54 (by decide)) ?_
            refine pg_val rfl rfl rfl rfl rfl (e_field rfl Try.underlying54 rfl sz47 (by decide)) ?_
            refine pg_val rfl rfl rfl rfl rfl (e_loadF1 (i := 21) (off := 238) rfl ag47 S (j := 0) rfl rfl rfl (by first | with_reducible assumption | (rw [bv_length]; with_reducible assumption) | (rw [List.size_toArray, bv_length]; with_reducible assumption) | (simp [cat, length_zsum, zc84, msgC, hox.h0, hox.h1, hox.go, hox.sec, hox.j, hox.rh, hox.rb]; done) | (simp [cat, length_zsum, zc84, msgC, hox.h0, hox.h1, hox.go, hox.sec, hox.j, hox.rh, hox.rb]; omega) | rfl)) ?_
            refine pg_val rfl rfl rfl rfl rfl (e_len rfl Try.underlying47) ?_
            refine pg_val rfl rfl rfl rfl rfl (e_add64 rfl rfl (by omega)) ?_
            refine pg_valB rfl rfl rfl rfl rfl (e_eql rfl rfl) (fun hg41 => ?_) (fun hg41 => ?_)
            · refine p_val (e_pick_t rfl rfl) rfl ?_
              refine p_val (e_move (v := .bool _) rfl) rfl ?_
              refine pg_does rfl rfl rfl rfl rfl (d_call Try.func43 nm43 rfl rfl (l28awake _)) ?_
              rintro _ w ⟨rfl, hB⟩
              have S := S.below hB
              refine p_val (e_pick_t rfl rfl) rfl ?_
              refine p_val (e_assign (v := .bool _) rfl) rfl ?_
              exact p_nil (x_then ⟨_, rfl, _, _, upds_eq ⟨rfl, trivial⟩, by first | (simp only [decide_eq_true_eq, eq_self, true_iff, iff_true, iff_false, Bool.false_eq_true, false_iff, ge_iff_le, gt_iff_lt, true_and, and_true, false_and, and_false, true_or, or_true, false_or, or_false, not_true_eq_false, not_false_eq_true]; omega) | (simp; done) | omega | (simp_all; done), S⟩)
            · exact False.elim (by omega)
          · exact False.elim (hg29 (by omega))
        · exact False.elim (hg19 z1)
      · rintro f w ⟨u, b2, rfl, hb2, S⟩
        refine x_then (s_ret (x_then_ret ?_))
        exact post1 (v := .bool _) Try.results11 rfl (by rw [hb2.2 trivial]; exact ⟨rfl, S.to_below⟩)
    · have h0 : (rMsg y).e = 0 := Classical.not_not.1 hc16
      have hinv := tk_inv bRG h0
      refine s_skip (x_then (s_seq ?_))
      refine s_cutK (ks := [some b3, k12, j12]) (ps := [Ex _ _, Rw _ _ _ _ _, Rw _ _ _ _ _]) [] trivial S (fun keep ks ps f' w' => ∃ u bb, f' = upds u ((2, .bool bb) :: keep) ∧ (bb = true ↔ True) ∧ St w0 w' [] ks ps) ?_ ?_
      · refine s_drawTK (ks := [some b3, k12, j12]) (ps := [Ex _ _, Rw _ _ _ _ _, Rw _ _ _ _ _]) S (.sq [(true, 0), (false, 1), (true, 2), (true, 3), (false, 4), (true, 5), (true, 6), (true, 7), (true, 10), (true, 11), (false, 8)] (.re (.sq [(true, 9), (true, 12), (true, 13), (true, 14), (false, 15), (true, 16)] .stop))) [17] [17] mixed (by kernel_rfl) (by repeat (first | exact Calm.post _ _ _ | refine Calm.then ?_ _ | refine Calm.inB ?_ _)) (fun hS => ?_)
        have S := S.drew
        refine t_sq ?_
        refine q_val (fun w hS => e_loadW 0 rfl ag84 sz84 hS rfl rfl (by first | with_reducible assumption | (rw [bv_length]; with_reducible assumption) | (rw [List.size_toArray, bv_length]; with_reducible assumption) | (simp [cat, length_zsum, zc84, msgC, hox.h0, hox.h1, hox.go, hox.sec, hox.j, hox.rh, hox.rb]; done) | (simp [cat, length_zsum, zc84, msgC, hox.h0, hox.h1, hox.go, hox.sec, hox.j, hox.rh, hox.rb]; omega) | rfl)) rfl hS ?_
        refine q_does (d_call Try.func46 nm46 rfl rfl (l28right _ (rMsg y).m _ _ _ _ _ _ hox)) rfl ?_
        rintro _ w ⟨rfl, hB⟩
        have S := S.below hB
        have hS := S.pk [0, 1, 2] rfl
        refine ⟨hS, ?_⟩
        rcases Classical.em ((rMsg y).m.right) with hg47 | hg47
        · rw [decide_eq_true hg47]
          refine q_val (fun w hS => e_move (v := .bool _) rfl) rfl hS ?_
          refine qg_val rfl rfl rfl rfl rfl (fun w hS => e_loadW 0 rfl ag84 sz84 hS rfl rfl (by first | with_reducible assumption | (rw [bv_length]; with_reducible assumption) | (rw [List.size_toArray, bv_length]; with_reducible assumption) | (simp [cat, length_zsum, zc84, msgC, hox.h0, hox.h1, hox.go, hox.sec, hox.j, hox.rh, hox.rb]; done) | (simp [cat, length_zsum, zc84, msgC, hox.h0, hox.h1, hox.go, hox.sec, hox.j, hox.rh, hox.rb]; omega) | rfl)) hS ?_
          refine qg_does rfl rfl rfl rfl rfl (d_call Try.func49 nm49 rfl rfl (l28plain _ (rMsg y).m _ _ _ _ _ _ hox)) ?_
          rintro _ w ⟨rfl, hB⟩
          have S := S.below hB
          have hS := S.pk [0, 1, 2] rfl
          refine ⟨hS, ?_⟩
          rcases Classical.em ((rMsg y).m.plain) with hg50 | hg50
          · rw [decide_eq_true hg50]
            refine q_val (fun w hS => e_pick_t rfl rfl) rfl hS ?_
            refine q_val (fun w hS => e_move (v := .bool _) rfl) rfl hS ?_
            refine qg_val rfl rfl rfl rfl rfl (fun w hS => e_loadW 0 rfl ag84 sz84 hS rfl rfl (by first | with_reducible assumption | (rw [bv_length]; with_reducible assumption) | (rw [List.size_toArray, bv_length]; with_reducible assumption) | (simp [cat, length_zsum, zc84, msgC, hox.h0, hox.h1, hox.go, hox.sec, hox.j, hox.rh, hox.rb]; done) | (simp [cat, length_zsum, zc84, msgC, hox.h0, hox.h1, hox.go, hox.sec, hox.j, hox.rh, hox.rb]; omega) | rfl)) hS ?_
            refine qg_val rfl rfl rfl rfl rfl (fun w hS => e_move (v := .slice _ _ _) rfl) hS ?_
            refine qg_val rfl rfl rfl rfl rfl (fun w hS => e_bytesStr rfl Try.underlying47 Try.underlying5 Try.underlying9 ((hS.rdOld RG rfl))) hS ?_
            refine qg_does rfl rfl rfl rfl rfl (d_call Try.func48 nm48 rfl rfl (l28bytes _ (rMsg y).m _ _ (rMsg y).b _ _ (rMsg y).s hox (S.rdRw 1 rfl rfl) (S.rdRw 2 rfl rfl) (by omega) (by omega))) ?_
            rintro _ w ⟨k54, c54, rfl, T⟩
            have S := S.merge T rfl
            have hS := S.pk [1, 2, 3] rfl
            refine ⟨hS, ?_⟩
            refine q_nil ?_
            refine t_reK (ks := [some b3, k12, j12, k54]) (ps := [Ex _ _, Rw _ _ _ _ _, Rw _ _ _ _ _, Rw _ _ _ _ _]) (S.pk [1, 2, 3, 0] rfl) (fun w' h => h.pk [0, 1, 2] rfl) (fun hS => ?_)
            refine t_sq ?_
            refine qg_val rfl rfl rfl rfl rfl (fun w hS => e_bytesStr rfl Try.underlying47 Try.underlying5 Try.underlying9 ((hS.rdRw 3 rfl rfl))) hS ?_
            refine qg_valB rfl rfl rfl rfl rfl (fun w hS => e_eqlT rfl rfl (by rw [hinv.2.2]; exact bRG) (bRG)) hS (fun hg58 => ?_) (fun hg58 => ?_)
            · refine q_val (fun w hS => e_pick_t rfl rfl) rfl hS ?_
              refine q_val (fun w hS => e_move (v := .bool _) rfl) rfl hS ?_
              refine qg_does rfl rfl rfl rfl rfl (d_call Try.func43 nm43 rfl rfl (l28awake _)) ?_
              rintro _ w ⟨rfl, hB⟩
              have S := S.below hB
              have hS := S.pk [1, 2, 3, 0] rfl
              refine ⟨hS, ?_⟩
              refine q_val (fun w hS => e_pick_t rfl rfl) rfl hS ?_
              refine q_nil ?_
              refine t_stop ?_
              refine p_val (e_assign (v := .bool _) rfl) rfl ?_
              exact p_nil (x_then ⟨_, rfl, _, _, upds_eq ⟨rfl, trivial⟩, by first | (simp only [decide_eq_true_eq, eq_self, true_iff, iff_true, iff_false, Bool.false_eq_true, false_iff, ge_iff_le, gt_iff_lt, true_and, and_true, false_and, and_false, true_or, or_true, false_or, or_false, not_true_eq_false, not_false_eq_true]; omega) | (simp; done) | omega | (simp_all; done), S.pk [1, 2, 3] rfl⟩)
            · exact False.elim (hg58 hinv.2.2)
          · exact False.elim (hg50 hinv.2.1)
        · exact False.elim (hg47 hinv.1)
      · rintro f w ⟨u, b2, rfl, hb2, S⟩
        refine x_then (s_ret ?_)
        exact post1 (v := .bool _) Try.results11 rfl (by rw [hb2.2 trivial]; exact ⟨rfl, S.to_below⟩)
end Go.Proofs.Ytcgcjklpilbndaa

/- Arguments opened: bytes, sums, texts. It proves no statement by itself. -/
set_option linter.unusedSimpArgs false
set_option linter.unusedVariables false
namespace Go.Proofs.Ytcgcjklpilbndaa.E
open Go Go.RowKit Go.WideShapes Go.ChangeShapes Go.Deep
section
variable {H : Type} {enc : TypeId × Value → H} {P : Program} {w : World} {base : Nat} {spare : Nat → Bool} {held : Bool}
theorem okWide_array {r : Reach} {b0 : Nat} {t e : TypeId} {n : Nat} {v : Value} (ht : P.underlying t = some (.array n e)) (h : Value.okWide P w r b0 t v) : ∃ cs, v = .agg cs := by
  simp only [Value.okWide, ht] at h
  obtain ⟨cs, h1, _⟩ := h
  exact ⟨cs, h1⟩
theorem open_bytes {r : Reach} {b0 : Nat} {t e : TypeId} {v : Value} {d : DataW H} {p : List MemPlace} (ht : P.underlying t = some (.slice e)) (he : P.underlying e = some (.int .u8)) (hs : P.cellsOf e = 1) (hv : Value.okWide P w r b0 t v)
    (h : DataW.Trod enc P w base spare held t v d p) :
    ∃ (A : Option Addr) (n cap : Nat) (l : List Nat), v = .slice A n cap ∧ l.length = n ∧ n ≤ cap ∧ cap ≤ maxLen ∧ Bytes l ∧ Rd w 1 A n (bv l) := by
  obtain ⟨A, n, cap, l, h1, h2, h3, h4, h5, h6⟩ := open_row ht hs hv h (fun _ _ _ => opens_u8 he) (fun _ _ => rfl)
  exact ⟨A, n, cap, l, h1, h2, h3, h4, h5, by rw [bv_map] at h6; exact h6⟩
theorem open_sums {r : Reach} {b0 : Nat} {t e u : TypeId} {v : Value} {d : DataW H} {p : List MemPlace} (ht : P.underlying t = some (.slice e)) (he : P.underlying e = some (.array 32 u)) (hu : P.underlying u = some (.int .u8)) (hs : P.cellsOf u = 1) (hc : P.cellsOf e = 32) (hv : Value.okWide P w r b0 t v)
    (h : DataW.Trod enc P w base spare held t v d p) :
    ∃ (A : Option Addr) (n cap : Nat) (L : List (List Nat)), v = .slice A n cap ∧ L.length = n ∧ n ≤ cap ∧ cap ≤ maxLen ∧ All32 L ∧ (∀ l ∈ L, Bytes l) ∧ Rd w 32 A n (sv L) := by
  obtain ⟨A, n, cap, l, h1, h2, h3, h4, h5, h6⟩ := open_row (ok := fun l => l.length = 32 ∧ Bytes l) ht hc hv h (fun _ _ _ => opens_sum he hu hs hc) (fun _ h => by simpa using h.1)
  exact ⟨A, n, cap, l, h1, h2, h3, h4, fun x hx => (h5 x hx).1, fun x hx => (h5 x hx).2, h6⟩
theorem open_sum {r : Reach} {b0 : Nat} {t u : TypeId} {v : Value} {d : DataW H} {p : List MemPlace} (he : P.underlying t = some (.array 32 u)) (hu : P.underlying u = some (.int .u8)) (hs : P.cellsOf u = 1) (hc : P.cellsOf t = 32) (hv : Value.okWide P w r b0 t v)
    (h : DataW.Trod enc P w base spare held t v d p) : ∃ s : List Nat, v = .agg (bv s).toArray ∧ s.length = 32 ∧ Bytes s := by
  obtain ⟨s, h1, h2⟩ := open_val (r := r) (b0 := b0) (okWide_array he hv) h (opens_sum he hu hs hc)
  exact ⟨s, h1, h2.1, h2.2⟩
end
end Go.Proofs.Ytcgcjklpilbndaa.E
